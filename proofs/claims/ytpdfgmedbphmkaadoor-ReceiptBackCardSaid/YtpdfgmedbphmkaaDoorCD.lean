/-
  Canonical JSON: which value is good. Contract.
-/
import Derived.Test.YtpdfgmedbphmkaaDoorCC
import Derived.Test.YtpdfgmedbphmkaaDoorAL4
set_option linter.unusedSimpArgs false
set_option linter.unusedVariables false
set_option maxRecDepth 100000
namespace Go.Proofs.YtpdfgmedbphmkaaDoor
open Go Go.AL
attribute [local irreducible] AOps AWp SOps AE AT ACall AApp

theorem good_c : ∀ (n : Nat), n ≤ 1000 → ∀ (j : J) (H : AHeap) (Kc : AV → AHeap → Prop), J.Fit j → Kc (.v (.bool (goodB n j))) H → ACall X 26 [.agg j.cells, .v (.int .i64 n)] H Kc := fun n => by
  induction n with
  | zero =>
    intro hn j H Kc hf h
    refine ACall.drop ?_
    rw [J.cells_eq]
    refine ACall_intro Tryd.func26 rfl (by kernel_rfl) (by rw [Tryd.ntmps26]; simp) ?_; rw [Tryd.ntmps26]; simp only [frame0, Nat.reduceAdd]
    (refine AWp_seq_k (fun K hK => ?_); apply s_region; (iterate 2 (apply s_box; decide; (simp only [go_sem]; rfl); (simp only [go_sem]; rfl); intro b hb)); apply s_q; decide; rfl; (simp only [go_sem]; rfl); apply s_nil; simp only [AThen, ABlock]; refine hK _ _ ?_; clear hK K; refine AWp_seq_k (fun K hK => ?_); apply s_region; (iterate 3 (apply s_q; decide; rfl; (simp only [go_sem]; rfl))))
    obtain ⟨b3, rfl⟩ : ∃ s, s = b := ⟨_, rfl⟩
    have hb3 := hb
    clear hb
    obtain ⟨b2, rfl⟩ : ∃ s, s = b := ⟨_, rfl⟩
    have hb2 := hb
    clear hb
    have g2 := get_fresh (x := .box 3 [.v (.int .i64 ((0 : Nat) : Int))]) (AHeap.get_put_same b2 (.box 34 [.v (.int .i64 j.kind), .v (.int .i64 j.int), .s j.text, .sl false (j.keys.map strCells), .sl false (j.list.map J.cells)]) H) hb3
    have g3 := AHeap.get_put_same b3 (.box 3 [.v (.int .i64 ((0 : Nat) : Int))]) (H.put b2 (.box 34 [.v (.int .i64 j.kind), .v (.int .i64 j.int), .s j.text, .sl false (j.keys.map strCells), .sl false (j.list.map J.cells)]))
    have hE := Ext.put (ob := .box 3 [.v (.int .i64 ((0 : Nat) : Int))]) (Ext.fresh (o := .box 34 [.v (.int .i64 j.kind), .v (.int .i64 j.int), .s j.text, .sl false (j.keys.map strCells), .sl false (j.list.map J.cells)]) hb2) hb3
    generalize (H.put b2 (.box 34 [.v (.int .i64 j.kind), .v (.int .i64 j.int), .s j.text, .sl false (j.keys.map strCells), .sl false (j.list.map J.cells)])).put b3 (.box 3 [.v (.int .i64 ((0 : Nat) : Int))]) = M at g2 g3 hE ⊢
    have hneg : decide ((0 : Int) < ((0 : Nat) : Int)) = false := by decide
    (apply s_spec; decide; rfl; rfl; (simp only [go_sem, g2, g3, hneg]; rfl); (simp only [go_sem, g2, g3, hneg]; rfl); (simp only [go_sem, g2, g3, hneg]; rfl); (simp only [go_sem, g2, g3, hneg]; rfl); trivial)
    apply s_gno (.v (.bool false)); decide; rfl; (simp only [go_sem, hneg]; rfl); simp only [go_sem, hneg]; (simp only [go_sem, hneg]; rfl); (simp only [go_sem, hneg]; rfl); trivial
    (apply s_pick; decide; (simp only [go_sem, g2, g3, hneg]; rfl); (simp only [go_sem, g2, g3, hneg]; rfl); (simp only [go_sem, g2, g3, hneg]; rfl); (simp only [go_sem, g2, g3, hneg]; rfl); (simp only [go_sem, g2, g3, hneg]; rfl); (simp only [go_sem, g2, g3, hneg]; rfl); trivial; trivial; trivial; apply s_q; decide; rfl; (simp only [go_sem, g2, g3, hneg]; rfl); (iterate 2 (apply s_spec; decide; rfl; rfl; (simp only [go_sem, g2, g3, hneg]; rfl); (simp only [go_sem, g2, g3, hneg]; rfl); (simp only [go_sem, g2, g3, hneg]; rfl); (simp only [go_sem, g2, g3, hneg]; rfl); trivial)))
    apply s_when (av := .fn (.func 34) [] [ptrTo b3]); decide; (solve | (simp only [go_sem, hneg]; try rfl)); (solve | (simp only [go_sem, hneg]; try rfl)); (solve | (simp only [go_sem, hneg]; try rfl)); (solve | trivial | simp only [condsOk] | simp [condsOk] | simp_all [condsOk]); (intro hg; cases hg)
    apply s_gno (.v (.bool false)); decide; rfl; (simp only [go_sem, hneg]; rfl); simp only [go_sem, hneg]; (simp only [go_sem, hneg]; rfl); (simp only [go_sem, hneg]; rfl); trivial
    (apply s_spec; decide; rfl; rfl; (simp only [go_sem, g2, g3, hneg]; rfl); (simp only [go_sem, g2, g3, hneg]; rfl); (simp only [go_sem, g2, g3, hneg]; rfl); (simp only [go_sem, g2, g3, hneg]; rfl); trivial; apply s_pick; decide; (simp only [go_sem, g2, g3, hneg]; rfl); (simp only [go_sem, g2, g3, hneg]; rfl); (simp only [go_sem, g2, g3, hneg]; rfl); (simp only [go_sem, g2, g3, hneg]; rfl); (simp only [go_sem, g2, g3, hneg]; rfl); (simp only [go_sem, g2, g3, hneg]; rfl); trivial; trivial; trivial; apply s_q; decide; rfl; (simp only [go_sem, g2, g3, hneg]; rfl); apply s_nil; simp only [AThen, ABlock]; refine hK _ _ ?_; clear hK K; apply AWp_ret)
    refine ⟨H, hE, finB h ?_⟩
    simp [goodB]
  | succ n ih =>
    intro hn j H Kc hf h
    obtain ⟨f1, f2, f3, f4⟩ := fit_eq.1 hf
    have f2 : j.text.length ≤ 9223372036854775807 := by omega
    have f3 : ∀ x ∈ j.keys, x.length ≤ 9223372036854775807 := fun x hx => by have := f3 x hx; omega
    refine ACall.drop ?_
    have hcl : ∀ (b3 : Nat) (M : AHeap), M.get b3 = some (.box 3 [.v (.int .i64 ((n + 1 : Nat) : Int))]) → ∀ x ∈ j.list, ∀ K : AV → AHeap → Prop, K (.v (.bool (!goodB n x))) M → ACall X 34 ([.agg x.cells] ++ [ptrTo b3]) M K := fun b3 M hM x hx Kc2 h2 => by
      refine ACall.drop ?_
      rw [J.cells_eq]
      show ACall X 34 [_, _] M _
      refine ACall_intro Tryd.func34 rfl (by kernel_rfl) (by rw [Tryd.ntmps34]; simp) ?_; rw [Tryd.ntmps34]; simp only [frame0, Nat.reduceAdd]
      (refine AWp_seq_k (fun K hK => ?_); apply s_region; apply s_box; decide; (simp only [go_sem]; rfl); (simp only [go_sem]; rfl); intro b hb; apply s_q; decide; rfl; (simp only [go_sem]; rfl); apply s_nil; simp only [AThen, ABlock]; refine hK _ _ ?_; clear hK K; refine AWp_seq_k (fun K hK => ?_); apply s_region; apply s_q; decide; rfl; (simp only [go_sem]; rfl))
      have hM2 := get_fresh (x := .box 34 [.v (.int .i64 x.kind), .v (.int .i64 x.int), .s x.text, .sl false (x.keys.map strCells), .sl false (x.list.map J.cells)]) hM hb
      have hw : IntKind.i64.wrap (((n + 1 : Nat) : Int) - 1) = (n : Int) := by rw [wrap64 (by omega)]; omega
      ((iterate 2 (apply s_q; decide; rfl; (simp only [go_sem, hM2, hw]; rfl))); apply s_call; decide; (simp only [go_sem, hM2, hw]; rfl); (simp only [go_sem, hM2, hw]; rfl); refine ACall.args_eq (bs := [.agg x.cells, .v (.int .i64 n)]) (by rw [J.cells_eq x]) ?_; apply ih (by omega) x _ _ (f4 x hx); (iterate 2 (apply s_q; decide; rfl; (simp only [go_sem, hM2, hw]; rfl))); apply s_nil; simp only [AThen, ABlock]; refine hK _ _ ?_; clear hK K; apply AWp_ret)
      exact ⟨M, Ext.fresh hb, h2⟩
    rw [J.cells_eq]
    refine ACall_intro Tryd.func26 rfl (by kernel_rfl) (by rw [Tryd.ntmps26]; simp) ?_; rw [Tryd.ntmps26]; simp only [frame0, Nat.reduceAdd]
    (refine AWp_seq_k (fun K hK => ?_); apply s_region; (iterate 2 (apply s_box; decide; (simp only [go_sem]; rfl); (simp only [go_sem]; rfl); intro b hb)); apply s_q; decide; rfl; (simp only [go_sem]; rfl); apply s_nil; simp only [AThen, ABlock]; refine hK _ _ ?_; clear hK K; refine AWp_seq_k (fun K hK => ?_); apply s_region; (iterate 3 (apply s_q; decide; rfl; (simp only [go_sem]; rfl))))
    obtain ⟨b3, rfl⟩ : ∃ s, s = b := ⟨_, rfl⟩
    have hb3 := hb
    clear hb
    obtain ⟨b2, rfl⟩ : ∃ s, s = b := ⟨_, rfl⟩
    have hb2 := hb
    clear hb
    have g2 := get_fresh (x := .box 3 [.v (.int .i64 ((n + 1 : Nat) : Int))]) (AHeap.get_put_same b2 (.box 34 [.v (.int .i64 j.kind), .v (.int .i64 j.int), .s j.text, .sl false (j.keys.map strCells), .sl false (j.list.map J.cells)]) H) hb3
    have g3 := AHeap.get_put_same b3 (.box 3 [.v (.int .i64 ((n + 1 : Nat) : Int))]) (H.put b2 (.box 34 [.v (.int .i64 j.kind), .v (.int .i64 j.int), .s j.text, .sl false (j.keys.map strCells), .sl false (j.list.map J.cells)]))
    have hE := Ext.put (ob := .box 3 [.v (.int .i64 ((n + 1 : Nat) : Int))]) (Ext.fresh (o := .box 34 [.v (.int .i64 j.kind), .v (.int .i64 j.int), .s j.text, .sl false (j.keys.map strCells), .sl false (j.list.map J.cells)]) hb2) hb3
    generalize (H.put b2 (.box 34 [.v (.int .i64 j.kind), .v (.int .i64 j.int), .s j.text, .sl false (j.keys.map strCells), .sl false (j.list.map J.cells)])).put b3 (.box 3 [.v (.int .i64 ((n + 1 : Nat) : Int))]) = M at g2 g3 hE ⊢
    have hll : j.list.length ≤ 4611686018427387904 := by omega
    have hpos : decide ((0 : Int) < ((n + 1 : Nat) : Int)) = true := by rw [decide_eq_true]; omega
    (apply s_spec; decide; rfl; rfl; (simp only [go_sem, g2, g3, hpos]; rfl); (simp only [go_sem, g2, g3, hpos]; rfl); (simp only [go_sem, g2, g3, hpos]; rfl); (simp only [go_sem, g2, g3, hpos]; rfl); trivial)
    apply s_gpure; decide; (solve | (simp only [go_sem, hpos]; try rfl)); (solve | (simp only [go_sem, hpos]; try rfl)); (solve | (simp only [go_sem, hpos]; try rfl)); (solve | trivial | simp only [condsOk] | simp [condsOk] | simp_all [condsOk]); (solve | (simp only [go_sem, hpos]; try rfl)); (solve | (simp only [go_sem, hpos]; try rfl))
    · refine ACall.args_eq (bs := [.agg j.cells]) (by rw [J.cells_eq j]) ?_
      apply shaped_c valid_c j ⟨by omega, by omega⟩ f2 f3
      exact ⟨rfl, rfl⟩
    (apply s_pick; decide; (simp only [go_sem, g2, g3, hpos]; rfl); (simp only [go_sem, g2, g3, hpos]; rfl); (simp only [go_sem, g2, g3, hpos]; rfl); (simp only [go_sem, g2, g3, hpos]; rfl); (simp only [go_sem, g2, g3, hpos]; rfl); (simp only [go_sem, g2, g3, hpos]; rfl); trivial; trivial; trivial; apply s_q; decide; rfl; (simp only [go_sem, g2, g3, hpos]; rfl); apply s_spec; decide; rfl; rfl; (simp only [go_sem, g2, g3, hpos]; rfl); (simp only [go_sem, g2, g3, hpos]; rfl); (simp only [go_sem, g2, g3, hpos]; rfl); (simp only [go_sem, g2, g3, hpos]; rfl); trivial; apply s_spec; decide; rfl; rfl; (simp only [go_sem, g2, g3, hpos]; rfl); (simp only [go_sem, g2, g3, hpos]; rfl); (simp only [go_sem, g2, g3, hpos]; rfl); (simp only [go_sem, g2, g3, hpos]; rfl); simp [condsOk]; apply s_when; decide; (simp only [go_sem, g2, g3, hpos]; rfl); (simp only [go_sem, g2, g3, hpos]; rfl); (simp only [go_sem, g2, g3, hpos]; rfl); trivial; (intro hg; simp only [go_sem]; try rfl); apply s_gpure; decide; (simp only [go_sem, g2, g3, hpos]; rfl); (simp only [go_sem, g2, g3, hpos]; rfl); (simp only [go_sem, g2, g3, hpos]; rfl); simp [condsOk]; (simp only [go_sem, g2, g3, hpos]; rfl); (simp only [go_sem, g2, g3, hpos]; rfl); (apply containsFunc_c 34 [ptrTo b3] (fun x => !goodB n x) false j.list hll M (hcl b3 M g3); exact ⟨rfl, rfl⟩); apply s_spec; decide; rfl; rfl; (simp only [go_sem, g2, g3, hpos]; rfl); (simp only [go_sem, g2, g3, hpos]; rfl); (simp only [go_sem, g2, g3, hpos]; rfl); (simp only [go_sem, g2, g3, hpos]; rfl); simp [condsOk]; apply s_pick; decide; (simp only [go_sem, g2, g3, hpos]; rfl); (simp only [go_sem, g2, g3, hpos]; rfl); (simp only [go_sem, g2, g3, hpos]; rfl); (simp only [go_sem, g2, g3, hpos]; rfl); (simp only [go_sem, g2, g3, hpos]; rfl); (simp only [go_sem, g2, g3, hpos]; rfl); trivial; simp [condsOk]; trivial; apply s_q; decide; rfl; (simp only [go_sem, g2, g3, hpos]; rfl); apply s_nil; simp only [AThen, ABlock]; refine hK _ _ ?_; clear hK K; apply AWp_ret)
    refine ⟨H, hE, finB h ?_⟩
    have e : (!j.list.any fun x => !goodB n x) = j.list.all (goodB n) := by
      rw [List.any_eq_not_all_not]; simp
    simp [goodB, e]
end Go.Proofs.YtpdfgmedbphmkaaDoor
