/-
  Canonical JSON: Good. Contract.
-/
import Derived.Test.YtpdfgmedbphmkaaDoorCD
import Derived.Test.YtpdfgmedbphmkaaDoorAL4
set_option linter.unusedSimpArgs false
set_option linter.unusedVariables false
set_option maxRecDepth 100000
namespace Go.Proofs.YtpdfgmedbphmkaaDoor
open Go Go.AL
attribute [local irreducible] AOps AWp SOps AE AT ACall AApp

theorem Good_c (j : J) (H : AHeap) (Kc : AV → AHeap → Prop) (hf : J.Fit j) (h : Kc (.v (.bool (goodB 12 j))) H) : ACall X 16 [.agg j.cells] H Kc := by
  refine ACall.drop ?_
  rw [J.cells_eq]
  refine ACall_intro Tryd.func16 rfl (by kernel_rfl) (by rw [Tryd.ntmps16]; simp) ?_; rw [Tryd.ntmps16]; simp only [frame0, Nat.reduceAdd]
  (refine AWp_seq_k (fun K hK => ?_); apply s_region; apply s_box; decide; (simp only [go_sem]; rfl); (simp only [go_sem]; rfl); intro b hb; apply s_q; decide; rfl; (simp only [go_sem]; rfl); apply s_nil; simp only [AThen, ABlock]; refine hK _ _ ?_; clear hK K; refine AWp_seq_k (fun K hK => ?_); apply s_region; apply s_q; decide; rfl; (simp only [go_sem]; rfl))
  have g := AHeap.get_put_same b (.box 34 [.v (.int .i64 j.kind), .v (.int .i64 j.int), .s j.text, .sl false (j.keys.map strCells), .sl false (j.list.map J.cells)]) H
  (apply s_call; decide; (simp only [go_sem, g]; rfl); (simp only [go_sem, g]; rfl); refine ACall.args_eq (bs := [.agg j.cells, .v (.int .i64 ((12 : Nat) : Int))]) (by rw [J.cells_eq j]; rfl) ?_; apply good_c 12 (by decide) j _ _ hf; apply s_q; decide; rfl; (simp only [go_sem, g]; rfl); apply s_nil; simp only [AThen, ABlock]; refine hK _ _ ?_; clear hK K; apply AWp_ret)
  exact ⟨H, Ext.fresh hb, h⟩
end Go.Proofs.YtpdfgmedbphmkaaDoor
