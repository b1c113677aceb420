/-
  The document's good values: keys, shape, good, Good. Contracts.
-/
import Derived.Test.YtpdfgmedbphmkaaGreatDoorRA
import Derived.Test.YtpdfgmedbphmkaaGreatDoorCH
set_option linter.unusedSimpArgs false
set_option linter.unusedVariables false
set_option maxRecDepth 100000
namespace Go.Proofs.YtpdfgmedbphmkaaGreatDoor
open Go Go.AL
attribute [local irreducible] AOps AWp SOps AE AT ACall AApp

theorem str_at {ks : List (List UInt8)} {i : Nat} {x : List UInt8} (h : ks[i]? = some x) : (ks.map strCells)[i]? = some [.s x] := by rw [List.getElem?_map, h]; rfl
theorem nodup_take {ks : List (List UInt8)} {i : Nat} {x : List UInt8} (hi : ks[i]? = some x) : (ks.take (i + 1)).Nodup ↔ (ks.take i).Nodup ∧ x ∉ ks.take i := by
  rw [take_succ hi, List.nodup_append]
  simp only [List.nodup_cons, List.not_mem_nil, not_false_eq_true, List.nodup_nil, and_self, List.mem_singleton, true_and]
  exact ⟨fun ⟨a, b⟩ => ⟨a, fun h => b x h x rfl rfl⟩, fun ⟨a, b⟩ => ⟨a, fun y hy z hz => by rintro rfl; subst hz; exact b hy⟩⟩
theorem named_false {ks : List (List UInt8)} (h : ¬ (ks.Nodup ∧ ∀ k ∈ ks, Lib.validD k = true)) : namedB Lib.validD ks = false := by
  rw [namedB]
  by_cases h1 : ks.Nodup
  · rw [decide_eq_true h1, Bool.true_and, Bool.eq_false_iff]
    intro h2; exact h ⟨h1, List.all_eq_true.1 h2⟩
  · rw [decide_eq_false h1, Bool.false_and]
set_option maxHeartbeats 1000000 in
theorem rkeys_c (t : Bool) (ks : List (List UInt8)) (hl : ks.length ≤ 1000000000) (hkl : ∀ x ∈ ks, x.length ≤ 4611686018427387904) (H : AHeap) (Kc : AV → AHeap → Prop) (h : Kc (.v (.bool (namedB Lib.validD ks))) H) : ACall X 62 [.sl t (ks.map strCells)] H Kc := by
  refine ACall_intro Tryz.func62 rfl (by kernel_rfl) (by rw [Tryz.ntmps62]; simp) ?_; rw [Tryz.ntmps62]; simp only [frame0, Nat.reduceAdd]
  (refine AWp_seq_k (fun K hK => ?_); apply s_region; apply s_q; decide; rfl; (simp only [go_sem]; rfl); apply s_nil; simp only [AThen, ABlock]; refine hK _ _ ?_; clear hK K; (iterate 2 (refine AWp_seq_k (fun K hK => ?_))); apply s_region; apply s_q; decide; rfl; (simp only [go_sem]; rfl); apply s_nil; simp only [AThen, ABlock]; refine hK _ _ ?_; clear hK K; apply AWp_block)
  refine AWp_loop_s (σ := Nat) [0, 3] (fun i => [.sl t (ks.map strCells), .v (.int .i64 ((i : Nat) : Int))]) (fun _ => H) (fun i => ks.length - i) (fun i => i ≤ ks.length ∧ (ks.take i).Nodup ∧ ∀ k ∈ ks.take i, Lib.validD k = true) 0 ⟨Nat.zero_le _, by simp, by simp⟩ rfl rfl (fun i hi => ?_)
  obtain ⟨h1, h2, h3⟩ := hi
  simp only [List.zip_cons_cons, List.zip_nil_right]
  ((iterate 2 (refine AWp_seq_k (fun K hK => ?_))); apply s_region; (iterate 4 (apply s_q; decide; rfl; (simp only [go_sem]; rfl))); apply s_nil; simp only [AThen, ABlock]; refine hK _ _ ?_; clear hK K)
  refine cond_split (by simp only [go_sem]; try rfl) (fun hd => ?_) (fun hd => ?_)
  · have hlt : i < ks.length := by simpa using hd
    obtain ⟨x, hx⟩ := gete hlt
    have hgx := str_at hx
    have hxm : x ∈ ks := List.mem_of_getElem? hx
    (apply AWp_skip; simp only [AThen, ABlock]; refine hK _ _ ?_; clear hK K; refine AWp_seq_k (fun K hK => ?_); apply AWp_block; (iterate 2 (refine AWp_seq_k (fun K hK => ?_))); apply s_region; (iterate 4 (apply s_q; decide; rfl; (simp only [go_sem, hgx]; rfl))); apply s_call; decide; (simp only [go_sem, hgx]; rfl); (simp only [go_sem, hgx]; rfl); apply bad_c x (hkl x hxm); apply s_q; decide; rfl; (simp only [go_sem, hgx]; rfl); apply s_nil; simp only [AThen, ABlock]; refine hK _ _ ?_; clear hK K)
    refine cond_split (by simp only [go_sem]; try rfl) (fun he => ?_) (fun he => ?_)
    · rw [badI_ge] at he
      rw [named_false (fun hh => by rw [hh.2 x hxm] at he; cases he)] at h
      (refine AWp_seq_k (fun K hK => ?_); apply s_region; apply s_q; decide; rfl; (simp only [go_sem]; rfl); apply s_nil; simp only [AThen, ABlock]; refine hK _ _ ?_; clear hK K; apply AWp_ret; simp only [AThen, ABlock]; apply end_ret; rfl; simp only [AFr.get, reduceIte, Nat.reduceEqDiff])
      exact h
    rw [badI_ge] at he
    have hv : Lib.validD x = true := by simpa using he
    (apply AWp_skip; simp only [AThen, ABlock]; refine hK _ _ ?_; clear hK K; refine AWp_seq_k (fun K hK => ?_); apply s_region; apply s_q; decide; rfl; (simp only [go_sem]; rfl); apply s_nil; simp only [AThen, ABlock]; refine hK _ _ ?_; clear hK K; apply AWp_block)
    refine AWp_loop_s (σ := Nat) [0, 3, 4] (fun k => [.sl t (ks.map strCells), .v (.int .i64 ((i : Nat) : Int)), .v (.int .i64 ((k : Nat) : Int))]) (fun _ => H) (fun k => i - k) (fun k => k ≤ i ∧ x ∉ ks.take k) 0 ⟨Nat.zero_le _, by simp⟩ rfl rfl (fun k hk => ?_)
    obtain ⟨k1, k2⟩ := hk
    simp only [List.zip_cons_cons, List.zip_nil_right]
    ((iterate 2 (refine AWp_seq_k (fun K hK => ?_))); apply s_region; (iterate 3 (apply s_q; decide; rfl; (simp only [go_sem]; rfl))); apply s_nil; simp only [AThen, ABlock]; refine hK _ _ ?_; clear hK K)
    refine cond_split (by simp only [go_sem]; try rfl) (fun hf => ?_) (fun hf => ?_)
    · have hlk : k < i := by simpa using hf
      obtain ⟨y, hy⟩ := gete (l := ks) (i := k) (by omega)
      have hgy := str_at hy
      (apply AWp_skip; simp only [AThen, ABlock]; refine hK _ _ ?_; clear hK K; refine AWp_seq_k (fun K hK => ?_); apply AWp_block; refine AWp_seq_k (fun K hK => ?_))
      apply AWp_drawA [0, 1, 2, 3, 4, 5, 6, 7, 8] [] 0 (by exact mixed); kernel_rfl; (simp only [go_sem]; rfl); (simp only [go_sem]; rfl)
      ((iterate 9 (apply e_q; decide; (simp only [go_sem, hgx, hgy]; rfl))); apply e_nil; apply t_nil; simp only [AThen, ABlock]; refine hK _ _ ?_; clear hK K)
      refine cond_split (by simp only [go_sem]; try rfl) (fun hg => ?_) (fun hg => ?_)
      · have hg : x = y := by simpa using hg
        rw [named_false (fun hh => by
          have := (nodup_take hx).1 (hh.1.sublist (List.take_sublist _ _))
          exact this.2 (List.mem_take_iff_getElem.2 ⟨k, by omega, by rw [hg]; exact (List.getElem?_eq_some_iff.1 hy).2⟩))] at h
        (refine AWp_seq_k (fun K hK => ?_); apply s_region; apply s_q; decide; rfl; (simp only [go_sem]; rfl); apply s_nil; simp only [AThen, ABlock]; refine hK _ _ ?_; clear hK K; apply AWp_ret; simp only [AThen, ABlock]; apply end_ret; rfl; simp only [AFr.get, reduceIte, Nat.reduceEqDiff])
        exact h
      · have hg : ¬ x = y := by simpa using hg
        (apply AWp_skip; simp only [AThen, ABlock]; refine hK _ _ ?_; clear hK K; apply s_region; (iterate 3 (apply s_q; decide; rfl; (simp only [go_sem]; rfl))); apply s_nil; simp only [AThen, ABlock])
        refine ⟨k + 1, by omega, ⟨by omega, ?_⟩, ?_, by trivial⟩
        · rw [take_succ hy, List.mem_append, List.mem_singleton]
          rintro (h | h)
          · exact k2 h
          · exact hg h
        · simp only [getAll, List.map_cons, List.map_nil, AFr.get, reduceIte, Nat.reduceEqDiff]
          rw [wrapS hlk (by omega)]; try rfl
    · have hge : k = i := by simp at hf; omega
      subst hge
      (apply AWp_exit; simp only [AThen, ABlock, reduceIte, Nat.reduceEqDiff]; clear hK K; refine hK _ _ ?_; clear hK K; apply s_region; (iterate 3 (apply s_q; decide; rfl; (simp only [go_sem]; rfl))); apply s_nil; simp only [AThen, ABlock])
      refine ⟨k + 1, by omega, ⟨by omega, (nodup_take hx).2 ⟨h2, k2⟩, fun z hz => ?_⟩, ?_, by trivial⟩
      · rw [take_succ hx, List.mem_append, List.mem_singleton] at hz
        rcases hz with hz | rfl
        · exact h3 z hz
        · exact hv
      · simp only [getAll, List.map_cons, List.map_nil, AFr.get, reduceIte, Nat.reduceEqDiff]
        rw [wrapS hlt (by omega)]; try rfl
  · have hge : ks.length ≤ i := by simpa using hd
    rw [List.take_of_length_le hge] at h2 h3
    rw [show namedB Lib.validD ks = true by rw [namedB, decide_eq_true h2, Bool.true_and, List.all_eq_true]; exact h3] at h
    (apply AWp_exit; simp only [AThen, ABlock, reduceIte, Nat.reduceEqDiff]; clear hK K; refine hK _ _ ?_; clear hK K; refine AWp_seq_k (fun K hK => ?_); apply s_region; apply s_q; decide; rfl; (simp only [go_sem]; rfl); apply s_nil; simp only [AThen, ABlock]; refine hK _ _ ?_; clear hK K; apply AWp_ret)
    exact h
set_option maxHeartbeats 4000000 in
theorem rshape_c (j : J) (hf : J.Fit j) (H : AHeap) (Kc : AV → AHeap → Prop) (h : Kc (.v (.bool (shapedB Lib.validD j))) H) : ACall X 47 [.agg j.cells] H Kc := by
  obtain ⟨⟨f1, f2⟩, f3, f4, _⟩ := fit_eq.1 hf
  refine ACall.drop ?_
  rw [J.cells_eq]
  have hemp : decide (IntKind.i64.wrap ((j.keys.length : Int) + j.list.length) = 0) = (decide (j.keys = []) && decide (j.list = [])) := by
    rw [wrap64 (by omega)]
    cases hk : j.keys with
    | nil =>
      cases hll : j.list with
      | nil => simp
      | cons a l => simp; omega
    | cons a l => simp; omega
  refine ACall_intro Tryz.func47 rfl (by kernel_rfl) (by rw [Tryz.ntmps47]; simp) ?_; rw [Tryz.ntmps47]; simp only [frame0, Nat.reduceAdd]
  refine AWp_seq_k (fun K hK => ?_); apply s_region
  apply s_box; decide; exact (by simp only [go_sem]; try rfl); exact (by simp only [go_sem]; try rfl); intro s hs
  (apply s_q; decide; rfl; (simp only [go_sem]; rfl); apply s_nil; simp only [AThen, ABlock]; refine hK _ _ ?_; clear hK K; refine AWp_seq_k (fun K hK => ?_); apply s_region; (iterate 9 (apply s_q; decide; rfl; (simp only [go_sem]; rfl))); apply s_nil; simp only [AThen, ABlock]; refine hK _ _ ?_; clear hK K; (iterate 2 (refine AWp_seq_k (fun K hK => ?_))); apply s_region; (iterate 2 (apply s_q; decide; rfl; (simp only [go_sem]; rfl))); apply s_nil; simp only [AThen, ABlock]; refine hK _ _ ?_; clear hK K; apply AWp_block; refine AWp_seq_k (fun K hK => ?_); apply s_region; (iterate 2 (apply s_q; decide; rfl; (simp only [go_sem]; rfl))); apply s_nil; simp only [AThen, ABlock]; refine hK _ _ ?_; clear hK K)
  generalize hgenq : AHeap.put s _ H = M; obtain ⟨g, hextq⟩ := gen_ex hgenq hs; have hE := hextq; clear hextq hgenq
  have hfin : ∀ b : Bool, b = shapedB Lib.validD j → ∃ L', Ext L' M ∧ Kc (.v (.bool b)) L' := fun b hb => ⟨H, hE, by rw [hb]; exact h⟩
  skip
  refine cond_split (by simp only [go_sem]; try rfl) (fun h0 => ?_) (fun h0 => ?_)
  · (refine AWp_seq_k (fun K hK => ?_); apply s_region; (iterate 2 (apply s_q; decide; rfl; (simp only [go_sem, g]; rfl))); apply s_spec; decide; rfl; rfl; (simp only [go_sem, g]; rfl); (simp only [go_sem, g]; rfl); (simp only [go_sem, g]; rfl); (simp only [go_sem, g]; rfl); trivial; (iterate 2 (apply s_spec; decide; rfl; rfl; (simp only [go_sem, g]; rfl); (simp only [go_sem, g]; rfl); (simp only [go_sem, g]; rfl); (simp only [go_sem, g]; rfl); simp [condsOk])); apply s_pick; decide; (simp only [go_sem, g]; rfl); (simp only [go_sem, g]; rfl); (simp only [go_sem, g]; rfl); (simp only [go_sem, g]; rfl); (simp only [go_sem, g]; rfl); (simp only [go_sem, g]; rfl); trivial; simp [condsOk]; trivial; apply s_q; decide; rfl; (simp only [go_sem, g]; rfl); apply s_spec; decide; rfl; rfl; (simp only [go_sem, g]; rfl); (simp only [go_sem, g]; rfl); (simp only [go_sem, g]; rfl); (simp only [go_sem, g]; rfl); trivial; (iterate 2 (apply s_spec; decide; rfl; rfl; (simp only [go_sem, g]; rfl); (simp only [go_sem, g]; rfl); (simp only [go_sem, g]; rfl); (simp only [go_sem, g]; rfl); simp [condsOk])); apply s_pick; decide; (simp only [go_sem, g]; rfl); (simp only [go_sem, g]; rfl); (simp only [go_sem, g]; rfl); (simp only [go_sem, g]; rfl); (simp only [go_sem, g]; rfl); (simp only [go_sem, g]; rfl); trivial; simp [condsOk]; trivial; apply s_q; decide; rfl; (simp only [go_sem, g]; rfl); apply s_nil; simp only [AThen, ABlock]; refine hK _ _ ?_; clear hK K; apply AWp_ret; simp only [AThen, ABlock]; apply end_ret; rfl; simp only [AFr.get, reduceIte, Nat.reduceEqDiff])
    have h0 : j.kind = 0 := by simpa using h0
    refine hfin _ ?_
    try rw [hemp]
    simp [shapedB, h0, Bool.and_assoc]
  have h0 : ¬ j.kind = 0 := by simpa using h0
  (refine AWp_seq_k (fun K hK => ?_); apply s_region; (iterate 2 (apply s_q; decide; rfl; (simp only [go_sem]; rfl))); apply s_nil; simp only [AThen, ABlock]; refine hK _ _ ?_; clear hK K)
  refine cond_split (by simp only [go_sem]; try rfl) (fun h1 => ?_) (fun h1 => ?_)
  · (refine AWp_seq_k (fun K hK => ?_); apply s_region; (iterate 2 (apply s_q; decide; rfl; (simp only [go_sem, g]; rfl))); apply s_spec; decide; rfl; rfl; (simp only [go_sem, g]; rfl); (simp only [go_sem, g]; rfl); (simp only [go_sem, g]; rfl); (simp only [go_sem, g]; rfl); trivial; (iterate 3 (apply s_spec; decide; rfl; rfl; (simp only [go_sem, g]; rfl); (simp only [go_sem, g]; rfl); (simp only [go_sem, g]; rfl); (simp only [go_sem, g]; rfl); simp [condsOk])); apply s_spec; decide; rfl; rfl; (simp only [go_sem, g]; rfl); (simp only [go_sem, g]; rfl); (simp only [go_sem, g]; rfl); (simp only [go_sem, g]; rfl); trivial; (iterate 2 (apply s_spec; decide; rfl; rfl; (simp only [go_sem, g]; rfl); (simp only [go_sem, g]; rfl); (simp only [go_sem, g]; rfl); (simp only [go_sem, g]; rfl); simp [condsOk])); apply s_pickg; decide; (simp only [go_sem, g]; rfl); (simp only [go_sem, g]; rfl); (simp only [go_sem, g]; rfl); (simp only [go_sem, g]; rfl); (simp only [go_sem, g]; rfl); (simp only [go_sem, g]; rfl); (simp only [go_sem, g]; rfl); (simp only [go_sem, g]; rfl); simp [condsOk]; trivial; simp [condsOk]; apply s_pick; decide; (simp only [go_sem, g]; rfl); (simp only [go_sem, g]; rfl); (simp only [go_sem, g]; rfl); (simp only [go_sem, g]; rfl); (simp only [go_sem, g]; rfl); (simp only [go_sem, g]; rfl); trivial; simp [condsOk]; trivial; apply s_q; decide; rfl; (simp only [go_sem, g]; rfl); apply s_spec; decide; rfl; rfl; (simp only [go_sem, g]; rfl); (simp only [go_sem, g]; rfl); (simp only [go_sem, g]; rfl); (simp only [go_sem, g]; rfl); trivial; (iterate 2 (apply s_spec; decide; rfl; rfl; (simp only [go_sem, g]; rfl); (simp only [go_sem, g]; rfl); (simp only [go_sem, g]; rfl); (simp only [go_sem, g]; rfl); simp [condsOk])); apply s_pick; decide; (simp only [go_sem, g]; rfl); (simp only [go_sem, g]; rfl); (simp only [go_sem, g]; rfl); (simp only [go_sem, g]; rfl); (simp only [go_sem, g]; rfl); (simp only [go_sem, g]; rfl); trivial; simp [condsOk]; trivial; apply s_q; decide; rfl; (simp only [go_sem, g]; rfl); apply s_nil; simp only [AThen, ABlock]; refine hK _ _ ?_; clear hK K; apply AWp_ret; simp only [AThen, ABlock]; apply end_ret; rfl; simp only [AFr.get, reduceIte, Nat.reduceEqDiff])
    have h1 : j.kind = 1 := by simpa using h1
    refine hfin _ ?_
    try rw [hemp]
    simp [shapedB, h1, len0, Bool.and_assoc, Bool.and_comm, Bool.and_left_comm]
  have h1 : ¬ j.kind = 1 := by simpa using h1
  (refine AWp_seq_k (fun K hK => ?_); apply s_region; (iterate 2 (apply s_q; decide; rfl; (simp only [go_sem]; rfl))); apply s_nil; simp only [AThen, ABlock]; refine hK _ _ ?_; clear hK K)
  refine cond_split (by simp only [go_sem]; try rfl) (fun h2 => ?_) (fun h2 => ?_)
  · (refine AWp_seq_k (fun K hK => ?_); apply s_region; (iterate 2 (apply s_q; decide; rfl; (simp only [go_sem, g]; rfl))); apply s_spec; decide; rfl; rfl; (simp only [go_sem, g]; rfl); (simp only [go_sem, g]; rfl); (simp only [go_sem, g]; rfl); (simp only [go_sem, g]; rfl); trivial; (iterate 2 (apply s_spec; decide; rfl; rfl; (simp only [go_sem, g]; rfl); (simp only [go_sem, g]; rfl); (simp only [go_sem, g]; rfl); (simp only [go_sem, g]; rfl); simp [condsOk])); apply s_pick; decide; (simp only [go_sem, g]; rfl); (simp only [go_sem, g]; rfl); (simp only [go_sem, g]; rfl); (simp only [go_sem, g]; rfl); (simp only [go_sem, g]; rfl); (simp only [go_sem, g]; rfl); trivial; simp [condsOk]; trivial; apply s_q; decide; rfl; (simp only [go_sem, g]; rfl); apply s_spec; decide; rfl; rfl; (simp only [go_sem, g]; rfl); (simp only [go_sem, g]; rfl); (simp only [go_sem, g]; rfl); (simp only [go_sem, g]; rfl); trivial; (iterate 2 (apply s_spec; decide; rfl; rfl; (simp only [go_sem, g]; rfl); (simp only [go_sem, g]; rfl); (simp only [go_sem, g]; rfl); (simp only [go_sem, g]; rfl); simp [condsOk])); apply s_pick; decide; (simp only [go_sem, g]; rfl); (simp only [go_sem, g]; rfl); (simp only [go_sem, g]; rfl); (simp only [go_sem, g]; rfl); (simp only [go_sem, g]; rfl); (simp only [go_sem, g]; rfl); trivial; simp [condsOk]; trivial; apply s_q; decide; rfl; (simp only [go_sem, g]; rfl); apply s_spec; decide; rfl; rfl; (simp only [go_sem, g]; rfl); (simp only [go_sem, g]; rfl); (simp only [go_sem, g]; rfl); (simp only [go_sem, g]; rfl); trivial; (iterate 2 (apply s_spec; decide; rfl; rfl; (simp only [go_sem, g]; rfl); (simp only [go_sem, g]; rfl); (simp only [go_sem, g]; rfl); (simp only [go_sem, g]; rfl); simp [condsOk])); apply s_pick; decide; (simp only [go_sem, g]; rfl); (simp only [go_sem, g]; rfl); (simp only [go_sem, g]; rfl); (simp only [go_sem, g]; rfl); (simp only [go_sem, g]; rfl); (simp only [go_sem, g]; rfl); trivial; simp [condsOk]; trivial; apply s_q; decide; rfl; (simp only [go_sem, g]; rfl); apply s_nil; simp only [AThen, ABlock]; refine hK _ _ ?_; clear hK K; apply AWp_ret; simp only [AThen, ABlock]; apply end_ret; rfl; simp only [AFr.get, reduceIte, Nat.reduceEqDiff])
    have h2 : j.kind = 2 := by simpa using h2
    refine hfin _ ?_
    try rw [hemp]
    simp [shapedB, h2, len0, Bool.and_assoc, Bool.and_comm, Bool.and_left_comm]
  have h2 : ¬ j.kind = 2 := by simpa using h2
  (refine AWp_seq_k (fun K hK => ?_); apply s_region; (iterate 2 (apply s_q; decide; rfl; (simp only [go_sem]; rfl))); apply s_nil; simp only [AThen, ABlock]; refine hK _ _ ?_; clear hK K)
  refine cond_split (by simp only [go_sem]; try rfl) (fun h3 => ?_) (fun h3 => ?_)
  · (refine AWp_seq_k (fun K hK => ?_); apply s_region; (iterate 2 (apply s_q; decide; rfl; (simp only [go_sem, g, badI_valid]; rfl))); apply s_spec; decide; rfl; rfl; (simp only [go_sem, g, badI_valid]; rfl); (simp only [go_sem, g, badI_valid]; rfl); (simp only [go_sem, g, badI_valid]; rfl); (simp only [go_sem, g, badI_valid]; rfl); trivial; (iterate 2 (apply s_spec; decide; rfl; rfl; (simp only [go_sem, g, badI_valid]; rfl); (simp only [go_sem, g, badI_valid]; rfl); (simp only [go_sem, g, badI_valid]; rfl); (simp only [go_sem, g, badI_valid]; rfl); simp [condsOk])); apply s_pick; decide; (simp only [go_sem, g, badI_valid]; rfl); (simp only [go_sem, g, badI_valid]; rfl); (simp only [go_sem, g, badI_valid]; rfl); (simp only [go_sem, g, badI_valid]; rfl); (simp only [go_sem, g, badI_valid]; rfl); (simp only [go_sem, g, badI_valid]; rfl); trivial; simp [condsOk]; trivial; apply s_q; decide; rfl; (simp only [go_sem, g, badI_valid]; rfl); apply s_spec; decide; rfl; rfl; (simp only [go_sem, g, badI_valid]; rfl); (simp only [go_sem, g, badI_valid]; rfl); (simp only [go_sem, g, badI_valid]; rfl); (simp only [go_sem, g, badI_valid]; rfl); trivial; apply s_spec; decide; rfl; rfl; (simp only [go_sem, g, badI_valid]; rfl); (simp only [go_sem, g, badI_valid]; rfl); (simp only [go_sem, g, badI_valid]; rfl); (simp only [go_sem, g, badI_valid]; rfl); simp [condsOk]; apply s_gpure; decide; (simp only [go_sem, g, badI_valid]; rfl); (simp only [go_sem, g, badI_valid]; rfl); (simp only [go_sem, g, badI_valid]; rfl); simp [condsOk]; (simp only [go_sem, g, badI_valid]; rfl); (simp only [go_sem, g, badI_valid]; rfl); (apply bad_c _ f3; exact ⟨rfl, rfl⟩); apply s_spec; decide; rfl; rfl; (simp only [go_sem, g, badI_valid]; rfl); (simp only [go_sem, g, badI_valid]; rfl); (simp only [go_sem, g, badI_valid]; rfl); (simp only [go_sem, g, badI_valid]; rfl); simp [condsOk]; apply s_pick; decide; (simp only [go_sem, g, badI_valid]; rfl); (simp only [go_sem, g, badI_valid]; rfl); (simp only [go_sem, g, badI_valid]; rfl); (simp only [go_sem, g, badI_valid]; rfl); (simp only [go_sem, g, badI_valid]; rfl); (simp only [go_sem, g, badI_valid]; rfl); trivial; simp [condsOk]; trivial; apply s_q; decide; rfl; (simp only [go_sem, g, badI_valid]; rfl); apply s_nil; simp only [AThen, ABlock]; refine hK _ _ ?_; clear hK K; apply AWp_ret; simp only [AThen, ABlock]; apply end_ret; rfl; simp only [AFr.get, reduceIte, Nat.reduceEqDiff])
    have h3 : j.kind = 3 := by simpa using h3
    refine hfin _ ?_
    try rw [hemp]
    simp [shapedB, h3, len0, Bool.and_assoc]
  have h3 : ¬ j.kind = 3 := by simpa using h3
  (refine AWp_seq_k (fun K hK => ?_); apply s_region; (iterate 2 (apply s_q; decide; rfl; (simp only [go_sem]; rfl))); apply s_nil; simp only [AThen, ABlock]; refine hK _ _ ?_; clear hK K)
  refine cond_split (by simp only [go_sem]; try rfl) (fun h4 => ?_) (fun h4 => ?_)
  · (refine AWp_seq_k (fun K hK => ?_); apply s_region; (iterate 5 (apply s_q; decide; rfl; (simp only [go_sem, g]; rfl))); apply s_spec; decide; rfl; rfl; (simp only [go_sem, g]; rfl); (simp only [go_sem, g]; rfl); (simp only [go_sem, g]; rfl); (simp only [go_sem, g]; rfl); trivial; (iterate 2 (apply s_spec; decide; rfl; rfl; (simp only [go_sem, g]; rfl); (simp only [go_sem, g]; rfl); (simp only [go_sem, g]; rfl); (simp only [go_sem, g]; rfl); simp [condsOk])); apply s_pick; decide; (simp only [go_sem, g]; rfl); (simp only [go_sem, g]; rfl); (simp only [go_sem, g]; rfl); (simp only [go_sem, g]; rfl); (simp only [go_sem, g]; rfl); (simp only [go_sem, g]; rfl); trivial; simp [condsOk]; trivial; apply s_q; decide; rfl; (simp only [go_sem, g]; rfl); apply s_spec; decide; rfl; rfl; (simp only [go_sem, g]; rfl); (simp only [go_sem, g]; rfl); (simp only [go_sem, g]; rfl); (simp only [go_sem, g]; rfl); trivial; (iterate 2 (apply s_spec; decide; rfl; rfl; (simp only [go_sem, g]; rfl); (simp only [go_sem, g]; rfl); (simp only [go_sem, g]; rfl); (simp only [go_sem, g]; rfl); simp [condsOk])); apply s_pick; decide; (simp only [go_sem, g]; rfl); (simp only [go_sem, g]; rfl); (simp only [go_sem, g]; rfl); (simp only [go_sem, g]; rfl); (simp only [go_sem, g]; rfl); (simp only [go_sem, g]; rfl); trivial; simp [condsOk]; trivial; apply s_q; decide; rfl; (simp only [go_sem, g]; rfl); apply s_nil; simp only [AThen, ABlock]; refine hK _ _ ?_; clear hK K; apply AWp_ret; simp only [AThen, ABlock]; apply end_ret; rfl; simp only [AFr.get, reduceIte, Nat.reduceEqDiff])
    have h4 : j.kind = 4 := by simpa using h4
    refine hfin _ ?_
    try rw [hemp]
    simp [shapedB, h4, len0, Bool.and_assoc]
  have h4 : ¬ j.kind = 4 := by simpa using h4
  (refine AWp_seq_k (fun K hK => ?_); apply s_region; (iterate 2 (apply s_q; decide; rfl; (simp only [go_sem]; rfl))); apply s_nil; simp only [AThen, ABlock]; refine hK _ _ ?_; clear hK K)
  refine cond_split (by simp only [go_sem]; try rfl) (fun h5 => ?_) (fun h5 => ?_)
  · (refine AWp_seq_k (fun K hK => ?_); apply s_region; (iterate 8 (apply s_q; decide; rfl; (simp only [go_sem, g]; rfl))); apply s_spec; decide; rfl; rfl; (simp only [go_sem, g]; rfl); (simp only [go_sem, g]; rfl); (simp only [go_sem, g]; rfl); (simp only [go_sem, g]; rfl); trivial; (iterate 2 (apply s_spec; decide; rfl; rfl; (simp only [go_sem, g]; rfl); (simp only [go_sem, g]; rfl); (simp only [go_sem, g]; rfl); (simp only [go_sem, g]; rfl); simp [condsOk])); apply s_pick; decide; (simp only [go_sem, g]; rfl); (simp only [go_sem, g]; rfl); (simp only [go_sem, g]; rfl); (simp only [go_sem, g]; rfl); (simp only [go_sem, g]; rfl); (simp only [go_sem, g]; rfl); trivial; simp [condsOk]; trivial; apply s_q; decide; rfl; (simp only [go_sem, g]; rfl); apply s_spec; decide; rfl; rfl; (simp only [go_sem, g]; rfl); (simp only [go_sem, g]; rfl); (simp only [go_sem, g]; rfl); (simp only [go_sem, g]; rfl); trivial; (iterate 2 (apply s_spec; decide; rfl; rfl; (simp only [go_sem, g]; rfl); (simp only [go_sem, g]; rfl); (simp only [go_sem, g]; rfl); (simp only [go_sem, g]; rfl); simp [condsOk])); apply s_pick; decide; (simp only [go_sem, g]; rfl); (simp only [go_sem, g]; rfl); (simp only [go_sem, g]; rfl); (simp only [go_sem, g]; rfl); (simp only [go_sem, g]; rfl); (simp only [go_sem, g]; rfl); trivial; simp [condsOk]; trivial; apply s_q; decide; rfl; (simp only [go_sem, g]; rfl); apply s_spec; decide; rfl; rfl; (simp only [go_sem, g]; rfl); (simp only [go_sem, g]; rfl); (simp only [go_sem, g]; rfl); (simp only [go_sem, g]; rfl); trivial; apply s_spec; decide; rfl; rfl; (simp only [go_sem, g]; rfl); (simp only [go_sem, g]; rfl); (simp only [go_sem, g]; rfl); (simp only [go_sem, g]; rfl); simp [condsOk]; apply s_gpure; decide; (simp only [go_sem, g]; rfl); (simp only [go_sem, g]; rfl); (simp only [go_sem, g]; rfl); simp [condsOk]; (simp only [go_sem, g]; rfl); (simp only [go_sem, g]; rfl); (apply rkeys_c false j.keys f1 f4; exact ⟨rfl, rfl⟩); apply s_pick; decide; (simp only [go_sem, g]; rfl); (simp only [go_sem, g]; rfl); (simp only [go_sem, g]; rfl); (simp only [go_sem, g]; rfl); (simp only [go_sem, g]; rfl); (simp only [go_sem, g]; rfl); trivial; simp [condsOk]; trivial; apply s_q; decide; rfl; (simp only [go_sem, g]; rfl); apply s_nil; simp only [AThen, ABlock]; refine hK _ _ ?_; clear hK K; apply AWp_ret; simp only [AThen, ABlock]; apply end_ret; rfl; simp only [AFr.get, reduceIte, Nat.reduceEqDiff])
    have h5 : j.kind = 5 := by simpa using h5
    refine hfin _ ?_
    have e : decide ((j.keys.length : Int) = j.list.length) = decide (j.keys.length = j.list.length) := decide_eq_decide.2 Int.natCast_inj
    rw [e]
    simp [shapedB, h5, Bool.and_assoc]
  have h5 : ¬ j.kind = 5 := by simpa using h5
  (apply AWp_skip; simp only [AThen, ABlock]; refine hK _ _ ?_; clear hK K; refine AWp_seq_k (fun K hK => ?_); apply s_region; apply s_q; decide; rfl; (simp only [go_sem]; rfl); apply s_nil; simp only [AThen, ABlock]; refine hK _ _ ?_; clear hK K; apply AWp_ret)
  exact hfin _ (by simp [shapedB, h0, h1, h2, h3, h4, h5])
theorem rgood_c : ∀ (n : Nat), n ≤ 1000 → ∀ (j : J) (H : AHeap) (Kc : AV → AHeap → Prop), J.Fit j → Kc (.v (.bool (goodB n j))) H → ACall X 33 [.agg j.cells, .v (.int .i64 n)] H Kc := fun n => by
  induction n with
  | zero =>
    intro hn j H Kc hf h
    refine ACall.drop ?_
    rw [J.cells_eq]
    refine ACall_intro Tryz.func33 rfl (by kernel_rfl) (by rw [Tryz.ntmps33]; simp) ?_; rw [Tryz.ntmps33]; simp only [frame0, Nat.reduceAdd]
    refine AWp_seq_k (fun K hK => ?_); apply s_region
    apply s_box; decide; exact (by simp only [go_sem]; try rfl); exact (by simp only [go_sem]; try rfl); intro s hs
    (apply s_q; decide; rfl; (simp only [go_sem]; rfl); apply s_nil; simp only [AThen, ABlock]; refine hK _ _ ?_; clear hK K; (iterate 2 (refine AWp_seq_k (fun K hK => ?_))); apply s_region; (iterate 3 (apply s_q; decide; rfl; (simp only [go_sem]; rfl))); apply s_spec; decide; rfl; rfl; (simp only [go_sem]; rfl); (simp only [go_sem]; rfl); (simp only [go_sem]; rfl); (simp only [go_sem]; rfl); trivial)
    generalize hgenq : AHeap.put s _ H = M; obtain ⟨g, hextq⟩ := gen_ex hgenq hs; have hE := hextq; clear hextq hgenq
    (apply s_when (av := (.v (.bool false))); decide; (simp only [go_sem, g]; rfl); (simp only [go_sem, g]; rfl); (simp only [go_sem, g]; rfl); trivial; (focus (intro hg; first | (cases hg; done) | (simp at hg; done))); apply s_spec; decide; rfl; rfl; (simp only [go_sem, g]; rfl); (simp only [go_sem, g]; rfl); (simp only [go_sem, g]; rfl); (simp only [go_sem, g]; rfl); trivial; apply s_pick; decide; (simp only [go_sem, g]; rfl); (simp only [go_sem, g]; rfl); (simp only [go_sem, g]; rfl); (simp only [go_sem, g]; rfl); (simp only [go_sem, g]; rfl); (simp only [go_sem, g]; rfl); trivial; trivial; trivial; apply s_nil; simp only [AThen, ABlock]; refine hK _ _ ?_; clear hK K)
    refine cond_split (by simp only [go_sem]; try rfl) (fun hc => ?_) (fun hc => ?_)
    · (refine AWp_seq_k (fun K hK => ?_); apply s_region; apply s_q; decide; rfl; (simp only [go_sem]; rfl); apply s_nil; simp only [AThen, ABlock]; refine hK _ _ ?_; clear hK K; apply AWp_ret; simp only [AThen, ABlock]; apply end_ret; rfl; simp only [AFr.get, reduceIte, Nat.reduceEqDiff])
      exact ⟨H, hE, h⟩
    · simp at hc
  | succ n ih =>
    intro hn j H Kc hf h
    obtain ⟨⟨f1, f2⟩, f3, f4, f5⟩ := fit_eq.1 hf
    refine ACall.drop ?_
    rw [J.cells_eq]
    refine ACall_intro Tryz.func33 rfl (by kernel_rfl) (by rw [Tryz.ntmps33]; simp) ?_; rw [Tryz.ntmps33]; simp only [frame0, Nat.reduceAdd]
    refine AWp_seq_k (fun K hK => ?_); apply s_region
    apply s_box; decide; exact (by simp only [go_sem]; try rfl); exact (by simp only [go_sem]; try rfl); intro s hs
    (apply s_q; decide; rfl; (simp only [go_sem]; rfl); apply s_nil; simp only [AThen, ABlock]; refine hK _ _ ?_; clear hK K; (iterate 2 (refine AWp_seq_k (fun K hK => ?_))); apply s_region; (iterate 3 (apply s_q; decide; rfl; (simp only [go_sem]; rfl))); apply s_spec; decide; rfl; rfl; (simp only [go_sem]; rfl); (simp only [go_sem]; rfl); (simp only [go_sem]; rfl); (simp only [go_sem]; rfl); trivial)
    generalize hgenq : AHeap.put s _ H = M; obtain ⟨g, hextq⟩ := gen_ex hgenq hs; have hE := hextq; clear hextq hgenq
    have hpos : decide (((n + 1 : Nat) : Int) < 1) = false := by rw [decide_eq_false_iff_not]; omega
    have hwn : IntKind.i64.wrap (((n + 1 : Nat) : Int) - 1) = ((n : Nat) : Int) := by rw [wrap64 (by omega)]; omega
    (apply s_gpure; decide; (simp only [go_sem, g, hpos]; rfl); (simp only [go_sem, g, hpos]; rfl); (simp only [go_sem, g, hpos]; rfl); trivial; (simp only [go_sem, g, hpos]; rfl); (simp only [go_sem, g, hpos]; rfl); (refine ACall.args_eq (bs := [.agg j.cells]) ?_ ?_; (focus (rw [J.cells_eq j]; done)); apply rshape_c j hf; exact ⟨rfl, rfl⟩); apply s_spec; decide; rfl; rfl; (simp only [go_sem, g, hpos]; rfl); (simp only [go_sem, g, hpos]; rfl); (simp only [go_sem, g, hpos]; rfl); (simp only [go_sem, g, hpos]; rfl); trivial; apply s_pick; decide; (simp only [go_sem, g, hpos]; rfl); (simp only [go_sem, g, hpos]; rfl); (simp only [go_sem, g, hpos]; rfl); (simp only [go_sem, g, hpos]; rfl); (simp only [go_sem, g, hpos]; rfl); (simp only [go_sem, g, hpos]; rfl); trivial; trivial; trivial; apply s_nil; simp only [AThen, ABlock]; refine hK _ _ ?_; clear hK K)
    rw [goodB] at h
    refine cond_split (by simp only [go_sem]; try rfl) (fun hc => ?_) (fun hc => ?_)
    · have hc : shapedB Lib.validD j = false := by simpa using hc
      rw [hc, Bool.false_and] at h
      (refine AWp_seq_k (fun K hK => ?_); apply s_region; apply s_q; decide; rfl; (simp only [go_sem]; rfl); apply s_nil; simp only [AThen, ABlock]; refine hK _ _ ?_; clear hK K; apply AWp_ret; simp only [AThen, ABlock]; apply end_ret; rfl; simp only [AFr.get, reduceIte, Nat.reduceEqDiff])
      exact ⟨H, hE, h⟩
    have hc : shapedB Lib.validD j = true := by simpa using hc
    rw [hc, Bool.true_and] at h
    (apply AWp_skip; simp only [AThen, ABlock]; refine hK _ _ ?_; clear hK K; (iterate 2 (refine AWp_seq_k (fun K hK => ?_))); apply s_region; apply s_q; decide; rfl; (simp only [go_sem]; rfl); apply s_nil; simp only [AThen, ABlock]; refine hK _ _ ?_; clear hK K; apply AWp_block)
    refine AWp_loop_s (σ := Nat) [1, 2, 5] (fun i => [.v (.int .i64 ((n + 1 : Nat) : Int)), ptrTo s, .v (.int .i64 ((i : Nat) : Int))]) (fun _ => M) (fun i => j.list.length - i) (fun i => i ≤ j.list.length ∧ ∀ x ∈ j.list.take i, goodB n x = true) 0 ⟨Nat.zero_le _, by simp⟩ rfl rfl (fun i hi => ?_)
    obtain ⟨h1, h2⟩ := hi
    simp only [List.zip_cons_cons, List.zip_nil_right]
    ((iterate 2 (refine AWp_seq_k (fun K hK => ?_))); apply s_region; (iterate 5 (apply s_q; decide; rfl; (simp only [go_sem, g]; rfl))); apply s_nil; simp only [AThen, ABlock]; refine hK _ _ ?_; clear hK K)
    refine cond_split (by simp only [go_sem]; try rfl) (fun hd => ?_) (fun hd => ?_)
    · have hlt : i < j.list.length := by simpa using hd
      obtain ⟨x, hx⟩ := gete hlt
      have hgx := jget_at hx
      have hxm : x ∈ j.list := List.mem_of_getElem? hx
      (apply AWp_skip; simp only [AThen, ABlock]; refine hK _ _ ?_; clear hK K; refine AWp_seq_k (fun K hK => ?_); apply AWp_block; refine AWp_seq_k (fun K hK => ?_); apply s_region; (iterate 7 (apply s_q; decide; rfl; (simp only [go_sem, g, hgx, hwn]; rfl))); apply s_call; decide; (simp only [go_sem, g, hgx, hwn]; rfl); (simp only [go_sem, g, hgx, hwn]; rfl); refine ACall.args_eq (bs := [.agg x.cells, .v (.int .i64 n)]) ?_ ?_; (focus (rw [J.cells_eq x]; done)); apply ih (by omega) x _ _ (f5 x hxm); apply s_q; decide; rfl; (simp only [go_sem, g, hgx, hwn]; rfl); apply s_nil; simp only [AThen, ABlock]; refine hK _ _ ?_; clear hK K)
      refine cond_split (by simp only [go_sem]; try rfl) (fun he => ?_) (fun he => ?_)
      · rw [show j.list.all (goodB n) = false by
          rw [Bool.eq_false_iff]; intro hh
          rw [List.all_eq_true.1 hh x hxm] at he; cases he] at h
        (refine AWp_seq_k (fun K hK => ?_); apply s_region; apply s_q; decide; rfl; (simp only [go_sem]; rfl); apply s_nil; simp only [AThen, ABlock]; refine hK _ _ ?_; clear hK K; apply AWp_ret; simp only [AThen, ABlock]; apply end_ret; rfl; simp only [AFr.get, reduceIte, Nat.reduceEqDiff])
        exact ⟨H, hE, h⟩
      · have he : goodB n x = true := by simpa using he
        (apply AWp_skip; simp only [AThen, ABlock]; refine hK _ _ ?_; clear hK K; apply s_region; (iterate 3 (apply s_q; decide; rfl; (simp only [go_sem]; rfl))); apply s_nil; simp only [AThen, ABlock])
        refine ⟨i + 1, by omega, ⟨by omega, fun y hy => ?_⟩, ?_, by trivial⟩
        · rw [take_succ hx, List.mem_append, List.mem_singleton] at hy
          rcases hy with hy | rfl
          · exact h2 y hy
          · exact he
        · simp only [getAll, List.map_cons, List.map_nil, AFr.get, reduceIte, Nat.reduceEqDiff]
          rw [wrapS hlt (by omega)]; try rfl
    · have hge : j.list.length ≤ i := by simpa using hd
      rw [List.take_of_length_le hge] at h2
      rw [List.all_eq_true.2 h2] at h
      (apply AWp_exit; simp only [AThen, ABlock, reduceIte, Nat.reduceEqDiff]; clear hK K; refine hK _ _ ?_; clear hK K; refine AWp_seq_k (fun K hK => ?_); apply s_region; apply s_q; decide; rfl; (simp only [go_sem]; rfl); apply s_nil; simp only [AThen, ABlock]; refine hK _ _ ?_; clear hK K; apply AWp_ret)
      exact ⟨H, hE, h⟩
theorem rGood_c (j : J) (H : AHeap) (Kc : AV → AHeap → Prop) (hf : J.Fit j) (h : Kc (.v (.bool (goodB 12 j))) H) : ACall X 18 [.agg j.cells] H Kc := by
  refine ACall.drop ?_
  rw [J.cells_eq]
  refine ACall_intro Tryz.func18 rfl (by kernel_rfl) (by rw [Tryz.ntmps18]; simp) ?_; rw [Tryz.ntmps18]; simp only [frame0, Nat.reduceAdd]
  refine AWp_seq_k (fun K hK => ?_); apply s_region
  apply s_box; decide; exact (by simp only [go_sem]; try rfl); exact (by simp only [go_sem]; try rfl); intro s hs
  (apply s_q; decide; rfl; (simp only [go_sem]; rfl); apply s_nil; simp only [AThen, ABlock]; refine hK _ _ ?_; clear hK K; refine AWp_seq_k (fun K hK => ?_); apply s_region; apply s_q; decide; rfl; (simp only [go_sem]; rfl))
  generalize hgenq : AHeap.put s _ H = M; obtain ⟨g, hextq⟩ := gen_ex hgenq hs; have hE := hextq; clear hextq hgenq
  (apply s_call; decide; (simp only [go_sem, g]; rfl); (simp only [go_sem, g]; rfl); refine ACall.args_eq (bs := [.agg j.cells, .v (.int .i64 ((12 : Nat) : Int))]) (by rw [J.cells_eq j]; rfl) ?_; apply rgood_c 12 (by decide) j _ _ hf; apply s_q; decide; rfl; (simp only [go_sem, g]; rfl); apply s_nil; simp only [AThen, ABlock]; refine hK _ _ ?_; clear hK K; apply AWp_ret)
  exact ⟨H, hE, h⟩
end Go.Proofs.YtpdfgmedbphmkaaGreatDoor
