/-
  Canonical JSON: Good. Contract.
-/
import Derived.Test.YtniaafncmnilgaaGreatDoorCD
import Derived.Test.YtniaafncmnilgaaGreatDoorAL4
set_option linter.unusedSimpArgs false
set_option linter.unusedVariables false
set_option maxRecDepth 100000
namespace Go.Proofs.YtniaafncmnilgaaGreatDoor
open Go Go.AL
attribute [local irreducible] AOps AWp SOps AE AT ACall AApp

theorem Good_c (j : J) (H : AHeap) (Kc : AV → AHeap → Prop) (hf : J.Fit j) (h : Kc (.v (.bool (goodB 12 j))) H) : ACall X 13 [.agg j.cells] H Kc := by
  refine ACall.drop ?_
  rw [J.cells_eq]
  refine ACall_intro Tryz.func13 rfl (by kernel_rfl) (by rw [Tryz.ntmps13]; simp) ?_; rw [Tryz.ntmps13]; simp only [frame0, Nat.reduceAdd]
  (repeat' (first | (refine AWp_seq_k (fun K hK => ?_)) | (apply s_region) | (apply s_q; (first | decide | (dsimp only; decide)); rfl; (solve | (simp only [go_sem]; try rfl))) | (apply s_nil; try simp only [AThen, ABlock]; try (first | (refine hK _ _ ?_; clear hK K) | (clear hK K; refine hK _ _ ?_; clear hK K) | (clear hK K; clear hK K; refine hK _ _ ?_; clear hK K))) | (apply AWp_ret; try simp only [AThen, ABlock]; apply end_ret; rfl; try simp only [AFr.get, reduceIte, Nat.reduceEqDiff]) | (apply s_box; (first | decide | (dsimp only; decide)); (solve | (simp only [go_sem]; try rfl)); (solve | (simp only [go_sem]; try rfl)); intro b hb)))
  have g := AHeap.get_put_same b (.box 25 [.v (.int .i64 j.kind), .v (.int .i64 j.int), .s j.text, .sl false (j.keys.map strCells), .sl false (j.list.map J.cells)]) H
  (repeat' (first | (refine AWp_seq_k (fun K hK => ?_)) | (apply s_region) | (apply s_q; (first | decide | (dsimp only; decide)); rfl; (solve | (simp only [go_sem, g]; try rfl))) | (apply s_nil; try simp only [AThen, ABlock]; try (first | (refine hK _ _ ?_; clear hK K) | (clear hK K; refine hK _ _ ?_; clear hK K) | (clear hK K; clear hK K; refine hK _ _ ?_; clear hK K))) | (apply AWp_ret; try simp only [AThen, ABlock]; apply end_ret; rfl; try simp only [AFr.get, reduceIte, Nat.reduceEqDiff]) | (apply s_box; (first | decide | (dsimp only; decide)); (solve | (simp only [go_sem, g]; try rfl)); (solve | (simp only [go_sem, g]; try rfl)); intro b hb) | (apply s_call; (first | decide | (dsimp only; decide)); (solve | (simp only [go_sem, g]; try rfl)); (solve | (simp only [go_sem, g]; try rfl)); refine ACall.args_eq (bs := [.agg j.cells, .v (.int .i64 ((12 : Nat) : Int))]) (by rw [J.cells_eq j]; rfl) ?_; apply good_c 12 (by decide) j _ _ hf)))
  exact ⟨H, Ext.fresh hb, h⟩
end Go.Proofs.YtniaafncmnilgaaGreatDoor
