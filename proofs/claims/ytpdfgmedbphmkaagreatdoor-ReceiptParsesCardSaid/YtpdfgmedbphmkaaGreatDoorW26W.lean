/-
  JSON values, one by one: contract.
-/
import Derived.Test.YtpdfgmedbphmkaaGreatDoorW26V
set_option linter.unusedSimpArgs false
set_option linter.unusedVariables false
set_option maxRecDepth 100000
namespace Go.Proofs.YtpdfgmedbphmkaaGreatDoor
open Go Go.AL
attribute [local irreducible] AOps AWp SOps AE AT ACall AApp

set_option maxHeartbeats 2000000 in
theorem jsame_c : ∀ (n : Nat) (j v : J) (H : AHeap) (Kc : AV → AHeap → Prop), j.size ≤ n → j.Len → Kc (.v (.bool (J.same j v))) H → ACall X 9 [.agg j.cells, .agg v.cells] H Kc := fun n => by
  induction n with
  | zero => intro j v H Kc hs; cases j; simp [J.size] at hs
  | succ n ih =>
    intro j v H Kc hs hl h
    refine ACall.drop ?_
    obtain ⟨hl1, hl2, hl3⟩ := J.len_eq.1 hl
    have hsub : ∀ x ∈ j.list, x.size ≤ n := fun x hx => by have := J.size_list hx; omega
    have hbad : ∀ b : Bool, (b = true ↔ j = v) → Kc (.v (.bool b)) H := fun b hb => by
      have : J.same j v = b := by
        cases b with
        | true => exact J.same_iff.2 (hb.1 rfl)
        | false =>
          cases h1 : J.same j v with
          | false => rfl
          | true => exact (hb.2 (J.same_iff.1 h1)).symm
      rw [← this]; exact h
    rw [J.cells_eq j, J.cells_eq v]
    refine ACall_intro Tryz.func9 rfl (by kernel_rfl) (by rw [Tryz.ntmps9]; simp) ?_; rw [Tryz.ntmps9]; simp only [frame0, Nat.reduceAdd]
    (refine AWp_seq_k (fun K hK => ?_); apply s_region; (iterate 2 (apply s_box; decide; (simp only [go_sem]; rfl); (simp only [go_sem]; rfl); intro b hb)); apply s_q; decide; rfl; (simp only [go_sem]; rfl); apply s_nil; simp only [AThen, ABlock]; refine hK _ _ ?_; clear hK K; (iterate 2 (refine AWp_seq_k (fun K hK => ?_))); apply s_region; apply s_q; decide; rfl; (simp only [go_sem]; rfl))
    obtain ⟨b3, rfl⟩ : ∃ b3, b3 = b := ⟨_, rfl⟩
    have hb3 := hb
    clear hb
    obtain ⟨b2, rfl⟩ : ∃ b2, b2 = b := ⟨_, rfl⟩
    have hb2 := hb
    clear hb
    have g2 := get_fresh (x := .box 25 [.v (.int .i64 v.kind), .v (.int .i64 v.int), .s v.text, .sl false (v.keys.map strCells), .sl false (v.list.map J.cells)]) (AHeap.get_put_same b2 (.box 25 [.v (.int .i64 j.kind), .v (.int .i64 j.int), .s j.text, .sl false (j.keys.map strCells), .sl false (j.list.map J.cells)]) H) hb3
    have g3 := AHeap.get_put_same b3 (.box 25 [.v (.int .i64 v.kind), .v (.int .i64 v.int), .s v.text, .sl false (v.keys.map strCells), .sl false (v.list.map J.cells)]) (H.put b2 (.box 25 [.v (.int .i64 j.kind), .v (.int .i64 j.int), .s j.text, .sl false (j.keys.map strCells), .sl false (j.list.map J.cells)]))
    have hE := Ext.put (ob := .box 25 [.v (.int .i64 v.kind), .v (.int .i64 v.int), .s v.text, .sl false (v.keys.map strCells), .sl false (v.list.map J.cells)]) (Ext.fresh (o := .box 25 [.v (.int .i64 j.kind), .v (.int .i64 j.int), .s j.text, .sl false (j.keys.map strCells), .sl false (j.list.map J.cells)]) hb2) hb3
    generalize (H.put b2 (.box 25 [.v (.int .i64 j.kind), .v (.int .i64 j.int), .s j.text, .sl false (j.keys.map strCells), .sl false (j.list.map J.cells)])).put b3 (.box 25 [.v (.int .i64 v.kind), .v (.int .i64 v.int), .s v.text, .sl false (v.keys.map strCells), .sl false (v.list.map J.cells)]) = M at g2 g3 hE ⊢
    ((iterate 5 (apply s_q; decide; rfl; (simp only [go_sem, g2, g3]; rfl))); apply s_spec; decide; rfl; rfl; (simp only [go_sem, g2, g3]; rfl); (simp only [go_sem, g2, g3]; rfl); (simp only [go_sem, g2, g3]; rfl); (simp only [go_sem, g2, g3]; rfl); trivial; apply s_spec; decide; rfl; rfl; (simp only [go_sem, g2, g3]; rfl); (simp only [go_sem, g2, g3]; rfl); (simp only [go_sem, g2, g3]; rfl); (simp only [go_sem, g2, g3]; rfl); simp [condsOk]; apply s_spec; decide; rfl; rfl; (simp only [go_sem, g2, g3]; rfl); (simp only [go_sem, g2, g3]; rfl); (simp only [go_sem, g2, g3]; rfl); (simp only [go_sem, g2, g3]; rfl); trivial; (iterate 2 (apply s_spec; decide; rfl; rfl; (simp only [go_sem, g2, g3]; rfl); (simp only [go_sem, g2, g3]; rfl); (simp only [go_sem, g2, g3]; rfl); (simp only [go_sem, g2, g3]; rfl); simp [condsOk])); apply s_pick; decide; (simp only [go_sem, g2, g3]; rfl); (simp only [go_sem, g2, g3]; rfl); (simp only [go_sem, g2, g3]; rfl); (simp only [go_sem, g2, g3]; rfl); (simp only [go_sem, g2, g3]; rfl); (simp only [go_sem, g2, g3]; rfl); trivial; trivial; simp [condsOk]; apply s_q; decide; rfl; (simp only [go_sem, g2, g3]; rfl); apply s_spec; decide; rfl; rfl; (simp only [go_sem, g2, g3]; rfl); (simp only [go_sem, g2, g3]; rfl); (simp only [go_sem, g2, g3]; rfl); (simp only [go_sem, g2, g3]; rfl); trivial; apply s_spec; decide; rfl; rfl; (simp only [go_sem, g2, g3]; rfl); (simp only [go_sem, g2, g3]; rfl); (simp only [go_sem, g2, g3]; rfl); (simp only [go_sem, g2, g3]; rfl); simp [condsOk]; apply s_spec; decide; rfl; rfl; (simp only [go_sem, g2, g3]; rfl); (simp only [go_sem, g2, g3]; rfl); (simp only [go_sem, g2, g3]; rfl); (simp only [go_sem, g2, g3]; rfl); trivial; (iterate 2 (apply s_spec; decide; rfl; rfl; (simp only [go_sem, g2, g3]; rfl); (simp only [go_sem, g2, g3]; rfl); (simp only [go_sem, g2, g3]; rfl); (simp only [go_sem, g2, g3]; rfl); simp [condsOk])); apply s_pick; decide; (simp only [go_sem, g2, g3]; rfl); (simp only [go_sem, g2, g3]; rfl); (simp only [go_sem, g2, g3]; rfl); (simp only [go_sem, g2, g3]; rfl); (simp only [go_sem, g2, g3]; rfl); (simp only [go_sem, g2, g3]; rfl); trivial; trivial; simp [condsOk]; apply s_q; decide; rfl; (simp only [go_sem, g2, g3]; rfl); apply s_spec; decide; rfl; rfl; (simp only [go_sem, g2, g3]; rfl); (simp only [go_sem, g2, g3]; rfl); (simp only [go_sem, g2, g3]; rfl); (simp only [go_sem, g2, g3]; rfl); trivial; (iterate 2 (apply s_spec; decide; rfl; rfl; (simp only [go_sem, g2, g3]; rfl); (simp only [go_sem, g2, g3]; rfl); (simp only [go_sem, g2, g3]; rfl); (simp only [go_sem, g2, g3]; rfl); simp [condsOk])); apply s_spec; decide; rfl; rfl; (simp only [go_sem, g2, g3]; rfl); (simp only [go_sem, g2, g3]; rfl); (simp only [go_sem, g2, g3]; rfl); (simp only [go_sem, g2, g3]; rfl); trivial; (iterate 3 (apply s_spec; decide; rfl; rfl; (simp only [go_sem, g2, g3]; rfl); (simp only [go_sem, g2, g3]; rfl); (simp only [go_sem, g2, g3]; rfl); (simp only [go_sem, g2, g3]; rfl); simp [condsOk])); apply s_pick; decide; (simp only [go_sem, g2, g3]; rfl); (simp only [go_sem, g2, g3]; rfl); (simp only [go_sem, g2, g3]; rfl); (simp only [go_sem, g2, g3]; rfl); (simp only [go_sem, g2, g3]; rfl); (simp only [go_sem, g2, g3]; rfl); trivial; trivial; simp [condsOk]; apply s_q; decide; rfl; (simp only [go_sem, g2, g3]; rfl); apply s_spec; decide; rfl; rfl; (simp only [go_sem, g2, g3]; rfl); (simp only [go_sem, g2, g3]; rfl); (simp only [go_sem, g2, g3]; rfl); (simp only [go_sem, g2, g3]; rfl); trivial; (iterate 2 (apply s_spec; decide; rfl; rfl; (simp only [go_sem, g2, g3]; rfl); (simp only [go_sem, g2, g3]; rfl); (simp only [go_sem, g2, g3]; rfl); (simp only [go_sem, g2, g3]; rfl); simp [condsOk])); apply s_spec; decide; rfl; rfl; (simp only [go_sem, g2, g3]; rfl); (simp only [go_sem, g2, g3]; rfl); (simp only [go_sem, g2, g3]; rfl); (simp only [go_sem, g2, g3]; rfl); trivial; (iterate 3 (apply s_spec; decide; rfl; rfl; (simp only [go_sem, g2, g3]; rfl); (simp only [go_sem, g2, g3]; rfl); (simp only [go_sem, g2, g3]; rfl); (simp only [go_sem, g2, g3]; rfl); simp [condsOk])); apply s_pick; decide; (simp only [go_sem, g2, g3]; rfl); (simp only [go_sem, g2, g3]; rfl); (simp only [go_sem, g2, g3]; rfl); (simp only [go_sem, g2, g3]; rfl); (simp only [go_sem, g2, g3]; rfl); (simp only [go_sem, g2, g3]; rfl); trivial; trivial; simp [condsOk]; apply s_nil; simp only [AThen, ABlock]; refine hK _ _ ?_; clear hK K)
    refine cond_split (by simp only [go_sem]; try rfl) (fun hc => ?_) (fun hc => ?_)
    · (refine AWp_seq_k (fun K hK => ?_); apply s_region; apply s_q; decide; rfl; (simp only [go_sem]; rfl); apply s_nil; simp only [AThen, ABlock]; refine hK _ _ ?_; clear hK K; apply AWp_ret; simp only [AThen, ABlock]; apply end_ret; rfl; simp only [AFr.get, reduceIte, Nat.reduceEqDiff])
      refine ⟨H, hE, hbad false ⟨fun h => (by cases h), ?_⟩⟩
      rintro rfl
      simp at hc
    have hq : j.kind = v.kind ∧ j.int = v.int ∧ j.text = v.text ∧ j.keys.length = v.keys.length ∧ j.list.length = v.list.length := by
      by_cases h1 : j.kind = v.kind <;> by_cases h2 : j.int = v.int <;> by_cases h3 : j.text = v.text <;> by_cases h4 : j.keys.length = v.keys.length <;> by_cases h5 : j.list.length = v.list.length <;> simp [h1, h2, h3, h4, h5] at hc ⊢ <;> omega
    obtain ⟨q1, q2, q3, q4, q5⟩ := hq
    (apply AWp_skip; simp only [AThen, ABlock]; refine hK _ _ ?_; clear hK K; (iterate 2 (refine AWp_seq_k (fun K hK => ?_))); apply s_region; apply s_q; decide; rfl; (simp only [go_sem]; rfl); apply s_nil; simp only [AThen, ABlock]; refine hK _ _ ?_; clear hK K; apply AWp_block)
    refine AWp_loop_s (σ := Nat) [2, 3, 5] (fun i => [ptrTo b2, ptrTo b3, .v (.int .i64 i)]) (fun _ => M) (fun i => j.keys.length - i) (fun i => i ≤ j.keys.length ∧ j.keys.take i = v.keys.take i) 0 ⟨Nat.zero_le _, rfl⟩ rfl rfl (fun i hi => ?_)
    simp only [List.zip_cons_cons, List.zip_nil_right]
    ((iterate 2 (refine AWp_seq_k (fun K hK => ?_))); apply s_region; (iterate 5 (apply s_q; decide; rfl; (simp only [go_sem, g2, g3]; rfl))); apply s_nil; simp only [AThen, ABlock]; refine hK _ _ ?_; clear hK K)
    refine cond_split (by simp only [go_sem]; try rfl) (fun hd => ?_) (fun hd => ?_)
    · have hlt : i < j.keys.length := by simpa using hd
      obtain ⟨a, ha⟩ : ∃ a, j.keys[i]? = some a := ⟨_, List.getElem?_eq_getElem hlt⟩
      obtain ⟨c, hcm⟩ : ∃ a, v.keys[i]? = some a := ⟨_, List.getElem?_eq_getElem (by omega)⟩
      have hg : (j.keys.map strCells)[i]? = some [.s a] := by rw [List.getElem?_map, ha]; rfl
      have hg2 : (v.keys.map strCells)[i]? = some [.s c] := by rw [List.getElem?_map, hcm]; rfl
      (apply AWp_skip; simp only [AThen, ABlock]; refine hK _ _ ?_; clear hK K; refine AWp_seq_k (fun K hK => ?_); apply AWp_block; refine AWp_seq_k (fun K hK => ?_))
      apply AWp_drawA [0, 1, 2, 3, 4, 5, 6, 7, 8, 9, 10] [] 0 (by exact mixed); kernel_rfl; (simp only [go_sem]; rfl); (simp only [go_sem]; rfl)
      ((iterate 11 (apply e_q; decide; (simp only [go_sem, g2, g3, hg, hg2]; rfl))); apply e_nil; apply t_nil; simp only [AThen, ABlock]; refine hK _ _ ?_; clear hK K)
      refine cond_split (by simp only [go_sem]; try rfl) (fun he => ?_) (fun he => ?_)
      · (refine AWp_seq_k (fun K hK => ?_); apply s_region; apply s_q; decide; rfl; (simp only [go_sem]; rfl); apply s_nil; simp only [AThen, ABlock]; refine hK _ _ ?_; clear hK K; apply AWp_ret; simp only [AThen, ABlock]; apply end_ret; rfl; simp only [AFr.get, reduceIte, Nat.reduceEqDiff])
        refine ⟨H, hE, hbad false ⟨fun h => (by cases h), ?_⟩⟩
        rintro rfl
        rw [ha] at hcm; cases hcm
        simp at he
      · (apply AWp_skip; simp only [AThen, ABlock]; refine hK _ _ ?_; clear hK K; apply s_region; (iterate 3 (apply s_q; decide; rfl; (simp only [go_sem]; rfl))); apply s_nil; simp only [AThen, ABlock])
        have hac : a = c := by simpa using he
        subst hac
        refine ⟨i + 1, by omega, ⟨by omega, ?_⟩, ?_, by trivial⟩
        · rw [List.take_add_one, List.take_add_one, ha, hcm, hi.2]
        · simp only [getAll, List.map_cons, List.map_nil, AFr.get, reduceIte, Nat.reduceEqDiff]
          rw [wrapS hlt (by omega)]; try rfl
    · have hge : j.keys.length ≤ i := by simpa using hd
      have hkeys : j.keys = v.keys := by
        have := hi.2
        rwa [List.take_of_length_le hge, List.take_of_length_le (by omega)] at this
      (apply AWp_exit; simp only [AThen, ABlock, reduceIte, Nat.reduceEqDiff]; clear hK K; refine hK _ _ ?_; clear hK K; (iterate 2 (refine AWp_seq_k (fun K hK => ?_))); apply s_region; apply s_q; decide; rfl; (simp only [go_sem]; rfl); apply s_nil; simp only [AThen, ABlock]; refine hK _ _ ?_; clear hK K; apply AWp_block)
      refine AWp_loop_s (σ := Nat) [2, 3, 6] (fun i => [ptrTo b2, ptrTo b3, .v (.int .i64 i)]) (fun _ => M) (fun i => j.list.length - i) (fun i => i ≤ j.list.length ∧ j.list.take i = v.list.take i) 0 ⟨Nat.zero_le _, rfl⟩ rfl rfl (fun k hk => ?_)
      simp only [List.zip_cons_cons, List.zip_nil_right]
      ((iterate 2 (refine AWp_seq_k (fun K hK => ?_))); apply s_region; (iterate 5 (apply s_q; decide; rfl; (simp only [go_sem, g2, g3]; rfl))); apply s_nil; simp only [AThen, ABlock]; refine hK _ _ ?_; clear hK K)
      refine cond_split (by simp only [go_sem]; try rfl) (fun hd2 => ?_) (fun hd2 => ?_)
      · have hlt : k < j.list.length := by simpa using hd2
        obtain ⟨x, hx⟩ : ∃ a, j.list[k]? = some a := ⟨_, List.getElem?_eq_getElem hlt⟩
        obtain ⟨y, hy⟩ : ∃ a, v.list[k]? = some a := ⟨_, List.getElem?_eq_getElem (by omega)⟩
        have hg : (j.list.map J.cells)[k]? = some [.v (.int .i64 x.kind), .v (.int .i64 x.int), .s x.text, .sl false (x.keys.map strCells), .sl false (x.list.map J.cells)] := by rw [List.getElem?_map, hx, ← J.cells_eq]; rfl
        have hg2 : (v.list.map J.cells)[k]? = some [.v (.int .i64 y.kind), .v (.int .i64 y.int), .s y.text, .sl false (y.keys.map strCells), .sl false (y.list.map J.cells)] := by rw [List.getElem?_map, hy, ← J.cells_eq]; rfl
        have hxm := List.mem_of_getElem? hx
        (apply AWp_skip; simp only [AThen, ABlock]; refine hK _ _ ?_; clear hK K; refine AWp_seq_k (fun K hK => ?_); apply AWp_block; refine AWp_seq_k (fun K hK => ?_))
        apply AWp_drawA [0, 1, 2, 3, 4, 5, 6, 7, 8, 9, 10, 11] [] 0 (by exact mixed); kernel_rfl; (simp only [go_sem]; rfl); (simp only [go_sem]; rfl)
        ((iterate 10 (apply e_q; decide; (simp only [go_sem, g2, g3, hg, hg2]; rfl))); apply e_call; decide; (simp only [go_sem, g2, g3, hg, hg2]; rfl); (simp only [go_sem, g2, g3, hg, hg2]; rfl); (refine ACall.args_eq (bs := [.agg x.cells, .agg y.cells]) (by rw [J.cells_eq x, J.cells_eq y]) ?_; apply ih x y _ _ (hsub x hxm) (hl3 x hxm); exact ⟨rfl, rfl⟩); apply e_q; decide; (simp only [go_sem, g2, g3, hg, hg2]; rfl); apply e_nil; apply t_nil; simp only [AThen, ABlock]; refine hK _ _ ?_; clear hK K)
        refine cond_split (by simp only [go_sem]; try rfl) (fun he => ?_) (fun he => ?_)
        · (refine AWp_seq_k (fun K hK => ?_); apply s_region; apply s_q; decide; rfl; (simp only [go_sem]; rfl); apply s_nil; simp only [AThen, ABlock]; refine hK _ _ ?_; clear hK K; apply AWp_ret; simp only [AThen, ABlock]; apply end_ret; rfl; simp only [AFr.get, reduceIte, Nat.reduceEqDiff])
          refine ⟨H, hE, hbad false ⟨fun h => (by cases h), ?_⟩⟩
          rintro rfl
          rw [hx] at hy; cases hy
          rw [J.same_refl] at he
          simp at he
        · (apply AWp_skip; simp only [AThen, ABlock]; refine hK _ _ ?_; clear hK K; apply s_region; (iterate 3 (apply s_q; decide; rfl; (simp only [go_sem]; rfl))); apply s_nil; simp only [AThen, ABlock])
          have hxy : x = y := J.same_iff.1 (by simpa using he)
          subst hxy
          refine ⟨k + 1, by omega, ⟨by omega, ?_⟩, ?_, by trivial⟩
          · rw [List.take_add_one, List.take_add_one, hx, hy, hk.2]
          · simp only [getAll, List.map_cons, List.map_nil, AFr.get, reduceIte, Nat.reduceEqDiff]
            rw [wrapS hlt (by omega)]; try rfl
      · have hge2 : j.list.length ≤ k := by simpa using hd2
        have hlist : j.list = v.list := by
          have := hk.2
          rwa [List.take_of_length_le hge2, List.take_of_length_le (by omega)] at this
        (apply AWp_exit; simp only [AThen, ABlock, reduceIte, Nat.reduceEqDiff]; clear hK K; refine hK _ _ ?_; clear hK K; refine AWp_seq_k (fun K hK => ?_); apply s_region; apply s_q; decide; rfl; (simp only [go_sem]; rfl); apply s_nil; simp only [AThen, ABlock]; refine hK _ _ ?_; clear hK K; apply AWp_ret)
        exact ⟨H, hE, hbad true ⟨fun _ => J.ext' ⟨q1, q2, q3, hkeys, hlist⟩, fun _ => rfl⟩⟩
end Go.Proofs.YtpdfgmedbphmkaaGreatDoor
