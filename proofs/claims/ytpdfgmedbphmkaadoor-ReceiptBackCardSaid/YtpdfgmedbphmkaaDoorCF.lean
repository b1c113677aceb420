/-
  Canonical JSON: comparing two places of a row of names. Contract.
-/
import Derived.Test.YtpdfgmedbphmkaaDoorCE
import Derived.Test.YtpdfgmedbphmkaaDoorAL4
set_option linter.unusedSimpArgs false
set_option linter.unusedVariables false
set_option maxRecDepth 100000
namespace Go.Proofs.YtpdfgmedbphmkaaDoor
open Go Go.AL
attribute [local irreducible] AOps AWp SOps AE AT ACall AApp

theorem cmpAt_c (t : Bool) (ks : List (List UInt8)) (i j : Nat) (x y : List UInt8) (hi : ks[i]? = some x) (hj : ks[j]? = some y) (H : AHeap) (Kc : AV → AHeap → Prop) (h : Kc (.v (.int .i64 (cmpS x y))) H) :
    ACall X.dr 47 [.v (.int .i64 i), .v (.int .i64 j), .fp [.sl t (ks.map strCells)]] H Kc := by
  have g1 : (ks.map strCells)[i]? = some [.s x] := by rw [List.getElem?_map, hi]; rfl
  have g2 : (ks.map strCells)[j]? = some [.s y] := by rw [List.getElem?_map, hj]; rfl
  refine ACall_intro Tryd.func47 rfl (by kernel_rfl) (by rw [Tryd.ntmps47]; simp) ?_; rw [Tryd.ntmps47]; simp only [frame0, Nat.reduceAdd]
  (refine AWp_seq_k (fun K hK => ?_); apply s_region; apply s_q; decide; rfl; (simp only [go_sem]; rfl); apply s_nil; simp only [AThen, ABlock]; refine hK _ _ ?_; clear hK K; refine AWp_seq_k (fun K hK => ?_); apply AWp_block; refine AWp_seq_k (fun K hK => ?_))
  apply AWp_drawA [0, 1, 2, 3, 4, 5, 6, 7, 8, 9] [] 0 (by exact mixed); kernel_rfl; (simp only [go_sem]; rfl); (simp only [go_sem]; rfl)
  ((iterate 10 (apply e_q; decide; (simp only [go_sem, g1, g2]; rfl))); apply e_nil; apply t_nil; simp only [AThen, ABlock]; refine hK _ _ ?_; clear hK K)
  refine cond_split (by simp only [go_sem]; try rfl) (fun hc => ?_) (fun hc => ?_)
  · rw [blt_eq] at hc
    (refine AWp_seq_k (fun K hK => ?_); apply s_region; apply s_q; decide; rfl; (simp only [go_sem]; rfl); apply s_nil; simp only [AThen, ABlock]; refine hK _ _ ?_; clear hK K; apply AWp_ret; simp only [AThen, ABlock]; apply end_ret; rfl; simp only [AFr.get, reduceIte, Nat.reduceEqDiff])
    exact finI h (by simp at hc; rw [cmpS, if_pos hc])
  rw [blt_eq] at hc
  have hc : ¬ x < y := by simpa using hc
  (refine AWp_seq_k (fun K hK => ?_))
  apply AWp_drawA [0, 1, 2, 3, 4, 5, 6, 7, 8, 9] [] 0 (by exact mixed); kernel_rfl; (simp only [go_sem]; rfl); (simp only [go_sem]; rfl)
  ((iterate 10 (apply e_q; decide; (simp only [go_sem, g1, g2]; rfl))); apply e_nil; apply t_nil; simp only [AThen, ABlock]; refine hK _ _ ?_; clear hK K)
  refine cond_split (by simp only [go_sem]; try rfl) (fun hd => ?_) (fun hd => ?_)
  · rw [gtr_eq] at hd
    (refine AWp_seq_k (fun K hK => ?_); apply s_region; apply s_q; decide; rfl; (simp only [go_sem]; rfl); apply s_nil; simp only [AThen, ABlock]; refine hK _ _ ?_; clear hK K; apply AWp_ret; simp only [AThen, ABlock]; apply end_ret; rfl; simp only [AFr.get, reduceIte, Nat.reduceEqDiff])
    exact finI h (by simp at hd; rw [cmpS, if_neg hc, if_pos hd])
  rw [gtr_eq] at hd
  have hd : ¬ y < x := by simpa using hd
  (apply AWp_skip; simp only [AThen, ABlock]; refine hK _ _ ?_; clear hK K; refine AWp_seq_k (fun K hK => ?_); apply s_region; apply s_q; decide; rfl; (simp only [go_sem]; rfl); apply s_nil; simp only [AThen, ABlock]; refine hK _ _ ?_; clear hK K; apply AWp_ret)
  exact finI h (by rw [cmpS, if_neg hc, if_neg hd])
end Go.Proofs.YtpdfgmedbphmkaaDoor
