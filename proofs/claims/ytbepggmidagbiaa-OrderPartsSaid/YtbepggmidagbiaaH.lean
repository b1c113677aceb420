/-
  Sorted.
-/
import Derived.Test.YtbepggmidagbiaaG
import Derived.Test.YtbepggmidagbiaaSo
set_option linter.unusedSimpArgs false
set_option linter.unusedVariables false
set_option maxRecDepth 100000
namespace Go.Proofs.Ytbepggmidagbiaa
open Go Go.AL
attribute [local irreducible] AOps AWp SOps AE AT ACall AApp

theorem int_map (l : List Int) : (l.map fun x => [AV.v (.int .i64 x)]) = l.map intCells := rfl
theorem sortZ_len (l : List Int) : (sortZ l).length = l.length := by rw [sortZ, List.length_mergeSort]
theorem sorted_c (cb : Nat) (t : Bool) (l : List Int) (hl : l.length ≤ 1000000) (H : AHeap) (hcb : H.get cb = some (.box 25 [.sl t (l.map intCells)])) (Kc : AV → AHeap → Prop)
    (h : ∀ s L, Ext H L → RowAt 3 1 H L ((sortZ l).map intCells) s → Kc s L) : ACall X 57 [.fn (.func 68) [] [ptrTo cb]] H Kc := by
  refine ACall_intro Try.func57 rfl (by kernel_rfl) (by rw [Try.ntmps57]; simp) ?_; rw [Try.ntmps57]; simp only [frame0, Nat.reduceAdd]
  (repeat' (first | (refine AWp_seq_k (fun K hK => ?_)) | (apply s_region) | (apply s_q; (first | decide | (dsimp only; decide)); rfl; (solve | (simp only [go_sem]; try rfl))) | (apply s_nil; try simp only [AThen, ABlock]; try (first | (refine hK _ _ ?_; clear hK K) | (clear hK K; refine hK _ _ ?_; clear hK K) | (clear hK K; clear hK K; refine hK _ _ ?_; clear hK K))) | (apply AWp_ret; try simp only [AThen, ABlock]; apply end_ret; rfl; try simp only [AFr.get, reduceIte, Nat.reduceEqDiff]) | (apply s_call; (first | decide | (dsimp only; decide)); (solve | (simp only [go_sem]; try rfl)); (solve | (simp only [go_sem]; try rfl)); apply collect_c cb t l hl H hcb; intro s L h1 h2) | (apply s_call; (first | decide | (dsimp only; decide)); (solve | (simp only [go_sem]; try rfl)); (solve | (simp only [go_sem]; try rfl)); apply ACall_ord sortsI44 (by kernel_rfl) (fun _ _ x => VR.v _) (fun F S v x hv => by cases hv; rfl) (sortZ_len l) h1 (ss := l) h2 (by omega); intro L' h3 h4 h5)))
  exact h s L' h4 h3
end Go.Proofs.Ytbepggmidagbiaa
