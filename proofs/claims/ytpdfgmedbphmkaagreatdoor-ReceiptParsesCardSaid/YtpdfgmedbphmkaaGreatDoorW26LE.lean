/-
  The law's own guard: small, left. Contracts.
-/
import Derived.Test.YtpdfgmedbphmkaaGreatDoorCH
set_option linter.unusedSimpArgs false
set_option linter.unusedVariables false
set_option maxRecDepth 100000
namespace Go.Proofs.YtpdfgmedbphmkaaGreatDoor
open Go Go.AL
attribute [local irreducible] AOps AWp SOps AE AT ACall AApp

theorem any_take {α : Type} {p : α → Bool} {l : List α} {n : Nat} {x : α} (h : (l.take n).any p = false) (hx : l[n]? = some x) (hp : p x = false) : (l.take (n + 1)).any p = false := by
  rw [List.take_add_one, hx, List.any_append, h]; simp [hp]
theorem any_at {α : Type} {p : α → Bool} {l : List α} {n : Nat} {x : α} (hx : l[n]? = some x) (hp : p x = true) : l.any p = true := List.any_eq_true.2 ⟨x, List.mem_of_getElem? hx, hp⟩
def leftI : Nat → J → Int → Int
  | 0, _, _ => -1
  | d + 1, j, n => if n < 1 ∨ 500 < j.text.length ∨ 100 < j.keys.length ∨ 200 < j.list.length then -1 else if j.keys.any (fun k => decide (200 < k.length)) then -1 else j.list.foldl (fun n x => if 0 ≤ n then leftI d x n else n) (n - 1)
theorem leftI_le : ∀ (d : Nat) (j : J) (n : Int), leftI d j n ≤ max n (-1) := fun d => by
  induction d with
  | zero => intro j n; simp [leftI]; omega
  | succ d ih =>
    intro j n
    rw [leftI]
    split
    · omega
    split
    · omega
    · rename_i h1 h2
      have hn : ¬ n < 1 := fun h => h1 (.inl h)
      have : ∀ (l : List J) (m : Int), l.foldl (fun n x => if 0 ≤ n then leftI d x n else n) m ≤ max m (-1) := fun l => by
        induction l with
        | nil => intro m; simp; omega
        | cons x l ih2 =>
          intro m
          rw [List.foldl_cons]
          refine Int.le_trans (ih2 _) ?_
          split
          · have := ih x m; omega
          · omega
      have := this j.list (n - 1)
      omega
theorem leftI_ge : ∀ (d : Nat) (j : J) (n : Int), -1 ≤ leftI d j n := fun d => by
  induction d with
  | zero => intro j n; simp [leftI]
  | succ d ih =>
    intro j n
    rw [leftI]
    split
    · omega
    split
    · omega
    · rename_i h1 h2
      have hn : ¬ n < 1 := fun h => h1 (.inl h)
      have : ∀ (l : List J) (m : Int), -1 ≤ m → -1 ≤ l.foldl (fun n x => if 0 ≤ n then leftI d x n else n) m := fun l => by
        induction l with
        | nil => intro m hm; exact hm
        | cons x l ih2 =>
          intro m hm
          rw [List.foldl_cons]
          refine ih2 _ ?_
          split
          · exact ih x m
          · exact hm
      exact this j.list (n - 1) (by omega)
theorem fold_neg (d : Nat) : ∀ (l : List J) (m : Int), ¬ 0 ≤ m → l.foldl (fun n x => if 0 ≤ n then leftI d x n else n) m = m
  | [], m, _ => rfl
  | x :: l, m, h => by rw [List.foldl_cons, if_neg h]; exact fold_neg d l m h
set_option maxHeartbeats 4000000 in
theorem left_c : ∀ (d : Nat), d ≤ 1000 → ∀ (j : J) (n : Int), -1000 ≤ n → n ≤ 1000 → ∀ (H : AHeap) (Kc : AV → AHeap → Prop), Kc (.v (.int .i64 (leftI d j n))) H → ACall X 4 [.agg j.cells, .v (.int .i64 n), .v (.int .i64 (d : Nat))] H Kc := fun d => by
  induction d with
  | zero =>
    intro _ j n hn1 hn2 H Kc h
    refine ACall.drop ?_
    rw [J.cells_eq]
    refine ACall_intro Tryz.func4 rfl (by kernel_rfl) (by rw [Tryz.ntmps4]; simp) ?_; rw [Tryz.ntmps4]; simp only [frame0, Nat.reduceAdd]
    refine AWp_seq_k (fun K hK => ?_); apply s_region
    apply s_box; decide; exact (by simp only [go_sem]; try rfl); exact (by simp only [go_sem]; try rfl); intro p hp
    (apply s_q; decide; rfl; (simp only [go_sem]; rfl); apply s_nil; simp only [AThen, ABlock]; refine hK _ _ ?_; clear hK K; (iterate 2 (refine AWp_seq_k (fun K hK => ?_))); apply s_region; (iterate 3 (apply s_q; decide; rfl; (simp only [go_sem]; rfl))); apply s_spec; decide; rfl; rfl; (simp only [go_sem]; rfl); (simp only [go_sem]; rfl); (simp only [go_sem]; rfl); (simp only [go_sem]; rfl); trivial; apply s_spec; decide; rfl; rfl; (simp only [go_sem]; rfl); (simp only [go_sem]; rfl); (simp only [go_sem]; rfl); (simp only [go_sem]; rfl); simp [condsOk]; apply s_pick; decide; (simp only [go_sem]; rfl); (simp only [go_sem]; rfl); (simp only [go_sem]; rfl); (simp only [go_sem]; rfl); (simp only [go_sem]; rfl); (simp only [go_sem]; rfl); trivial; trivial; simp [condsOk]; apply s_q; decide; rfl; (simp only [go_sem]; rfl); apply s_spec; decide; rfl; rfl; (simp only [go_sem]; rfl); (simp only [go_sem]; rfl); (simp only [go_sem]; rfl); (simp only [go_sem]; rfl); trivial; (iterate 3 (apply s_spec; decide; rfl; rfl; (simp only [go_sem]; rfl); (simp only [go_sem]; rfl); (simp only [go_sem]; rfl); (simp only [go_sem]; rfl); simp [condsOk])); apply s_pick; decide; (simp only [go_sem]; rfl); (simp only [go_sem]; rfl); (simp only [go_sem]; rfl); (simp only [go_sem]; rfl); (simp only [go_sem]; rfl); (simp only [go_sem]; rfl); trivial; trivial; simp [condsOk]; apply s_q; decide; rfl; (simp only [go_sem]; rfl); apply s_spec; decide; rfl; rfl; (simp only [go_sem]; rfl); (simp only [go_sem]; rfl); (simp only [go_sem]; rfl); (simp only [go_sem]; rfl); trivial; (iterate 3 (apply s_spec; decide; rfl; rfl; (simp only [go_sem]; rfl); (simp only [go_sem]; rfl); (simp only [go_sem]; rfl); (simp only [go_sem]; rfl); simp [condsOk])); apply s_pick; decide; (simp only [go_sem]; rfl); (simp only [go_sem]; rfl); (simp only [go_sem]; rfl); (simp only [go_sem]; rfl); (simp only [go_sem]; rfl); (simp only [go_sem]; rfl); trivial; trivial; simp [condsOk]; apply s_q; decide; rfl; (simp only [go_sem]; rfl); apply s_spec; decide; rfl; rfl; (simp only [go_sem]; rfl); (simp only [go_sem]; rfl); (simp only [go_sem]; rfl); (simp only [go_sem]; rfl); trivial; (iterate 3 (apply s_spec; decide; rfl; rfl; (simp only [go_sem]; rfl); (simp only [go_sem]; rfl); (simp only [go_sem]; rfl); (simp only [go_sem]; rfl); simp [condsOk])); apply s_pick; decide; (simp only [go_sem]; rfl); (simp only [go_sem]; rfl); (simp only [go_sem]; rfl); (simp only [go_sem]; rfl); (simp only [go_sem]; rfl); (simp only [go_sem]; rfl); trivial; trivial; simp [condsOk]; apply s_nil; simp only [AThen, ABlock]; refine hK _ _ ?_; clear hK K)
    have g1 := AHeap.get_put_same p (jbox j.kind j.int j.text (.sl false (j.keys.map strCells)) (.sl false (j.list.map J.cells))) H
    have hE := Ext.fresh hp (o := jbox j.kind j.int j.text (.sl false (j.keys.map strCells)) (.sl false (j.list.map J.cells)))
    generalize H.put p (jbox j.kind j.int j.text (.sl false (j.keys.map strCells)) (.sl false (j.list.map J.cells))) = M at g1 hE ⊢
    skip
    refine cond_split (by simp only [go_sem]; try rfl) (fun hc => ?_) (fun hc => ?_)
    · (refine AWp_seq_k (fun K hK => ?_); apply s_region; apply s_q; decide; rfl; (simp only [go_sem]; rfl); apply s_nil; simp only [AThen, ABlock]; refine hK _ _ ?_; clear hK K; apply AWp_ret; simp only [AThen, ABlock]; apply end_ret; rfl; simp only [AFr.get, reduceIte, Nat.reduceEqDiff])
      exact ⟨H, hE, h⟩
    · simp at hc
  | succ d ih =>
    intro hd0 j n hn1 hn2 H Kc h
    refine ACall.drop ?_
    rw [J.cells_eq]
    refine ACall_intro Tryz.func4 rfl (by kernel_rfl) (by rw [Tryz.ntmps4]; simp) ?_; rw [Tryz.ntmps4]; simp only [frame0, Nat.reduceAdd]
    refine AWp_seq_k (fun K hK => ?_); apply s_region
    apply s_box; decide; exact (by simp only [go_sem]; try rfl); exact (by simp only [go_sem]; try rfl); intro p hp
    (apply s_q; decide; rfl; (simp only [go_sem]; rfl); apply s_nil; simp only [AThen, ABlock]; refine hK _ _ ?_; clear hK K; (iterate 2 (refine AWp_seq_k (fun K hK => ?_))); apply s_region; (iterate 3 (apply s_q; decide; rfl; (simp only [go_sem]; rfl))); apply s_spec; decide; rfl; rfl; (simp only [go_sem]; rfl); (simp only [go_sem]; rfl); (simp only [go_sem]; rfl); (simp only [go_sem]; rfl); trivial; apply s_spec; decide; rfl; rfl; (simp only [go_sem]; rfl); (simp only [go_sem]; rfl); (simp only [go_sem]; rfl); (simp only [go_sem]; rfl); simp [condsOk]; apply s_pick; decide; (simp only [go_sem]; rfl); (simp only [go_sem]; rfl); (simp only [go_sem]; rfl); (simp only [go_sem]; rfl); (simp only [go_sem]; rfl); (simp only [go_sem]; rfl); trivial; trivial; simp [condsOk]; apply s_q; decide; rfl; (simp only [go_sem]; rfl); apply s_spec; decide; rfl; rfl; (simp only [go_sem]; rfl); (simp only [go_sem]; rfl); (simp only [go_sem]; rfl); (simp only [go_sem]; rfl); trivial; (iterate 3 (apply s_spec; decide; rfl; rfl; (simp only [go_sem]; rfl); (simp only [go_sem]; rfl); (simp only [go_sem]; rfl); (simp only [go_sem]; rfl); simp [condsOk])); apply s_pick; decide; (simp only [go_sem]; rfl); (simp only [go_sem]; rfl); (simp only [go_sem]; rfl); (simp only [go_sem]; rfl); (simp only [go_sem]; rfl); (simp only [go_sem]; rfl); trivial; trivial; simp [condsOk]; apply s_q; decide; rfl; (simp only [go_sem]; rfl); apply s_spec; decide; rfl; rfl; (simp only [go_sem]; rfl); (simp only [go_sem]; rfl); (simp only [go_sem]; rfl); (simp only [go_sem]; rfl); trivial; (iterate 3 (apply s_spec; decide; rfl; rfl; (simp only [go_sem]; rfl); (simp only [go_sem]; rfl); (simp only [go_sem]; rfl); (simp only [go_sem]; rfl); simp [condsOk])); apply s_pick; decide; (simp only [go_sem]; rfl); (simp only [go_sem]; rfl); (simp only [go_sem]; rfl); (simp only [go_sem]; rfl); (simp only [go_sem]; rfl); (simp only [go_sem]; rfl); trivial; trivial; simp [condsOk]; apply s_q; decide; rfl; (simp only [go_sem]; rfl); apply s_spec; decide; rfl; rfl; (simp only [go_sem]; rfl); (simp only [go_sem]; rfl); (simp only [go_sem]; rfl); (simp only [go_sem]; rfl); trivial; (iterate 3 (apply s_spec; decide; rfl; rfl; (simp only [go_sem]; rfl); (simp only [go_sem]; rfl); (simp only [go_sem]; rfl); (simp only [go_sem]; rfl); simp [condsOk])); apply s_pick; decide; (simp only [go_sem]; rfl); (simp only [go_sem]; rfl); (simp only [go_sem]; rfl); (simp only [go_sem]; rfl); (simp only [go_sem]; rfl); (simp only [go_sem]; rfl); trivial; trivial; simp [condsOk]; apply s_nil; simp only [AThen, ABlock]; refine hK _ _ ?_; clear hK K)
    have g1 := AHeap.get_put_same p (jbox j.kind j.int j.text (.sl false (j.keys.map strCells)) (.sl false (j.list.map J.cells))) H
    have hE := Ext.fresh hp (o := jbox j.kind j.int j.text (.sl false (j.keys.map strCells)) (.sl false (j.list.map J.cells)))
    generalize H.put p (jbox j.kind j.int j.text (.sl false (j.keys.map strCells)) (.sl false (j.list.map J.cells))) = M at g1 hE ⊢
    have hwn : IntKind.i64.wrap (n - 1) = n - 1 := wrap64 (by omega)
    have hwd : IntKind.i64.wrap (((d + 1 : Nat) : Int) - 1) = ((d : Nat) : Int) := by rw [wrap64 (by omega)]; omega
    skip
    rw [leftI] at h
    refine cond_split (by simp only [go_sem]; try rfl) (fun hc => ?_) (fun hc => ?_)
    · have hc' : n < 1 ∨ 500 < j.text.length ∨ 100 < j.keys.length ∨ 200 < j.list.length := by
        simp at hc; omega
      rw [if_pos hc'] at h
      (refine AWp_seq_k (fun K hK => ?_); apply s_region; apply s_q; decide; rfl; (simp only [go_sem]; rfl); apply s_nil; simp only [AThen, ABlock]; refine hK _ _ ?_; clear hK K; apply AWp_ret; simp only [AThen, ABlock]; apply end_ret; rfl; simp only [AFr.get, reduceIte, Nat.reduceEqDiff])
      exact ⟨H, hE, h⟩
    have hc' : ¬ (n < 1 ∨ 500 < j.text.length ∨ 100 < j.keys.length ∨ 200 < j.list.length) := by
      simp at hc; omega
    rw [if_neg hc'] at h
    (apply AWp_skip; simp only [AThen, ABlock]; refine hK _ _ ?_; clear hK K; refine AWp_seq_k (fun K hK => ?_); apply s_region; (iterate 3 (apply s_q; decide; rfl; (simp only [go_sem, hwn]; rfl))); apply s_nil; simp only [AThen, ABlock]; refine hK _ _ ?_; clear hK K; (iterate 2 (refine AWp_seq_k (fun K hK => ?_))); apply s_region; apply s_q; decide; rfl; (simp only [go_sem, hwn]; rfl); apply s_nil; simp only [AThen, ABlock]; refine hK _ _ ?_; clear hK K; apply AWp_block)
    refine AWp_loop_s (σ := Nat) [1, 2, 3, 7] (fun i => [.v (.int .i64 (n - 1)), .v (.int .i64 ((d + 1 : Nat) : Int)), ptrTo p, .v (.int .i64 i)]) (fun _ => M) (fun i => j.keys.length - i) (fun i => i ≤ j.keys.length ∧ (j.keys.take i).any (fun k => decide (200 < k.length)) = false) 0 ⟨Nat.zero_le _, rfl⟩ (by simp only [getAll, List.map_cons, List.map_nil, AFr.get, reduceIte, Nat.reduceEqDiff, hwn]; rfl) rfl (fun i hi => ?_)
    simp only [List.zip_cons_cons, List.zip_nil_right]
    obtain ⟨hi, hok⟩ := hi
    ((iterate 2 (refine AWp_seq_k (fun K hK => ?_))); apply s_region; (iterate 5 (apply s_q; decide; rfl; (simp only [go_sem, g1]; rfl))); apply s_nil; simp only [AThen, ABlock]; refine hK _ _ ?_; clear hK K)
    refine cond_split (by simp only [go_sem]; try rfl) (fun hd => ?_) (fun hd => ?_)
    · have hlt : i < j.keys.length := by simpa using hd
      obtain ⟨ky, hky⟩ := gete hlt
      have hgk := jstr_at hky
      (apply AWp_skip; simp only [AThen, ABlock]; refine hK _ _ ?_; clear hK K; refine AWp_seq_k (fun K hK => ?_); apply AWp_block; refine AWp_seq_k (fun K hK => ?_); apply s_region; (iterate 7 (apply s_q; decide; rfl; (simp only [go_sem, g1, hgk]; rfl))); apply s_nil; simp only [AThen, ABlock]; refine hK _ _ ?_; clear hK K)
      refine cond_split (by simp only [go_sem]; try rfl) (fun hq => ?_) (fun hq => ?_)
      · have hq : decide (200 < ky.length) = true := by simp at hq ⊢; omega
        rw [if_pos (any_at hky hq)] at h
        (refine AWp_seq_k (fun K hK => ?_); apply s_region; apply s_q; decide; rfl; (simp only [go_sem]; rfl); apply s_nil; simp only [AThen, ABlock]; refine hK _ _ ?_; clear hK K; apply AWp_ret; simp only [AThen, ABlock]; apply end_ret; rfl; simp only [AFr.get, reduceIte, Nat.reduceEqDiff])
        exact ⟨H, hE, h⟩
      · have hq : decide (200 < ky.length) = false := by simp at hq ⊢; omega
        (apply AWp_skip; simp only [AThen, ABlock]; refine hK _ _ ?_; clear hK K; apply s_region; (iterate 3 (apply s_q; decide; rfl; (simp only [go_sem]; rfl))); apply s_nil; simp only [AThen, ABlock])
        refine ⟨i + 1, by omega, ⟨by omega, any_take hok hky hq⟩, ?_, by trivial⟩
        simp only [getAll, List.map_cons, List.map_nil, AFr.get, reduceIte, Nat.reduceEqDiff]
        rw [wrapS hlt (by omega)]; try rfl
    have hge : j.keys.length ≤ i := by simpa using hd
    rw [List.take_of_length_le hge] at hok
    rw [if_neg (by rw [hok]; decide)] at h
    (apply AWp_exit; simp only [AThen, ABlock, reduceIte, Nat.reduceEqDiff]; clear hK K; refine hK _ _ ?_; clear hK K; (iterate 2 (refine AWp_seq_k (fun K hK => ?_))); apply s_region; apply s_q; decide; rfl; (simp only [go_sem]; rfl); apply s_nil; simp only [AThen, ABlock]; refine hK _ _ ?_; clear hK K; apply AWp_block)
    refine AWp_loop_s (σ := Nat × Int) [1, 2, 3, 8] (fun s => [.v (.int .i64 s.2), .v (.int .i64 ((d + 1 : Nat) : Int)), ptrTo p, .v (.int .i64 s.1)]) (fun _ => M) (fun s => j.list.length - s.1) (fun s => s.1 ≤ j.list.length ∧ s.2 = (j.list.take s.1).foldl (fun n x => if 0 ≤ n then leftI d x n else n) (n - 1) ∧ -1 ≤ s.2 ∧ s.2 ≤ 1000) (0, n - 1) ⟨Nat.zero_le _, rfl, by simp only; omega, by simp only; omega⟩ rfl rfl (fun s hs => ?_)
    obtain ⟨i2, m⟩ := s
    obtain ⟨hi2, hm, hm1, hm2⟩ := hs
    simp only [List.zip_cons_cons, List.zip_nil_right] at hi2 hm hm1 hm2 ⊢
    ((iterate 2 (refine AWp_seq_k (fun K hK => ?_))); apply s_region; (iterate 6 (apply s_q; decide; rfl; (simp only [go_sem, g1]; rfl))); apply s_spec; decide; rfl; rfl; (simp only [go_sem, g1]; rfl); (simp only [go_sem, g1]; rfl); (simp only [go_sem, g1]; rfl); (simp only [go_sem, g1]; rfl); trivial; apply s_spec; decide; rfl; rfl; (simp only [go_sem, g1]; rfl); (simp only [go_sem, g1]; rfl); (simp only [go_sem, g1]; rfl); (simp only [go_sem, g1]; rfl); simp [condsOk]; apply s_pick; decide; (simp only [go_sem, g1]; rfl); (simp only [go_sem, g1]; rfl); (simp only [go_sem, g1]; rfl); (simp only [go_sem, g1]; rfl); (simp only [go_sem, g1]; rfl); (simp only [go_sem, g1]; rfl); trivial; simp [condsOk]; trivial; apply s_nil; simp only [AThen, ABlock]; refine hK _ _ ?_; clear hK K)
    refine cond_split (by simp only [go_sem]; try rfl) (fun he => ?_) (fun he => ?_)
    · have hlt : i2 < j.list.length := by simp at he; omega
      have hm0 : 0 ≤ m := by simp at he; omega
      obtain ⟨x, hx⟩ := gete hlt
      have hgx := jget_at hx
      have hr := leftI_le d x m
      have hr2 := leftI_ge d x m
      (apply AWp_skip; simp only [AThen, ABlock]; refine hK _ _ ?_; clear hK K; refine AWp_seq_k (fun K hK => ?_); apply AWp_block; apply s_region; (iterate 8 (apply s_q; decide; rfl; (simp only [go_sem, g1, hgx]; rfl))); apply s_call; decide; (simp only [go_sem, g1, hgx]; rfl); (simp only [go_sem, g1, hgx]; rfl); refine ACall.args_eq (bs := [.agg x.cells, .v (.int .i64 m), .v (.int .i64 (d : Nat))]) ?_ ?_; (focus (rw [J.cells_eq x, hwd]; done)); apply ih (by omega) x m (by omega) hm2; apply s_q; decide; rfl; (simp only [go_sem, g1, hgx]; rfl); apply s_nil; simp only [AThen, ABlock]; refine hK _ _ ?_; clear hK K; apply s_region; (iterate 3 (apply s_q; decide; rfl; (simp only [go_sem, g1, hgx]; rfl))); apply s_nil; simp only [AThen, ABlock])
      refine ⟨(i2 + 1, leftI d x m), by simp only; omega, ⟨by simp only; omega, ?_, hr2, by simp only; omega⟩, ?_, by trivial⟩
      · simp only [take_succ hx, List.foldl_append, List.foldl_cons, List.foldl_nil, ← hm]; rw [if_pos hm0]
      · simp only [getAll, List.map_cons, List.map_nil, AFr.get, reduceIte, Nat.reduceEqDiff]
        rw [wrapS hlt (by omega)]; try rfl
    have hfin : m = j.list.foldl (fun n x => if 0 ≤ n then leftI d x n else n) (n - 1) := by
      have hsp : j.list = j.list.take i2 ++ j.list.drop i2 := (List.take_append_drop i2 j.list).symm
      by_cases hlt : i2 < j.list.length
      · have hneg : ¬ 0 ≤ m := by simp [hlt] at he; omega
        rw [hsp, List.foldl_append, ← hm, fold_neg d _ m hneg]
      · rw [List.take_of_length_le (by omega)] at hm; exact hm
    rw [← hfin] at h
    (apply AWp_exit; simp only [AThen, ABlock, reduceIte, Nat.reduceEqDiff]; clear hK K; refine hK _ _ ?_; clear hK K; refine AWp_seq_k (fun K hK => ?_); apply s_region; (iterate 2 (apply s_q; decide; rfl; (simp only [go_sem]; rfl))); apply s_nil; simp only [AThen, ABlock]; refine hK _ _ ?_; clear hK K; apply AWp_ret)
    exact ⟨H, hE, h⟩
end Go.Proofs.YtpdfgmedbphmkaaGreatDoor
