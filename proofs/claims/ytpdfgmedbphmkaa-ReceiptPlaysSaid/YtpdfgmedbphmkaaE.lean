/-
  The contract of Get.
-/
import Derived.Test.YtpdfgmedbphmkaaD
set_option linter.unusedSimpArgs false
set_option linter.unusedVariables false
set_option maxRecDepth 100000
namespace Go.Proofs.Ytpdfgmedbphmkaa
open Go Go.AL
attribute [local irreducible] AOps AWp SOps AE AT ACall AApp

def getA (u : List UInt8) (ms : List (List UInt8 × Mark)) : Mark := (afind u ms).getD ⟨[], 0, 0⟩
theorem get_c (p q : Nat) (u : List UInt8) (ms : List (List UInt8 × Mark)) (H : AHeap) (hB : IsBoard H p q ms) (K : AV → AHeap → Prop)
    (h : K (.tup [.agg (getA u ms).cells, .v (.bool (afind u ms).isSome)]) H) : ACall X 12 [.v (.pointer (some ⟨p, 0, none⟩)), .s u] H K := by
  refine ACall.drop ?_
  refine ACall_intro Try.func12 rfl (by kernel_rfl) (by rw [Try.ntmps12]; simp) ?_; rw [Try.ntmps12]; simp only [frame0, Nat.reduceAdd]
  (repeat' (first | (refine AWp_seq_k (fun K hK => ?_)) | (apply s_region) | (apply s_q; decide; rfl; (solve | (simp only [go_sem]; try rfl))) | (apply s_nil; try simp only [AThen, ABlock]; try (first | (refine hK _ _ ?_; clear hK K) | (clear hK K; refine hK _ _ ?_; clear hK K) | (clear hK K; clear hK K; refine hK _ _ ?_; clear hK K))) | (apply AWp_skip; try simp only [AThen, ABlock]; try (first | (refine hK _ _ ?_; clear hK K) | (clear hK K; refine hK _ _ ?_; clear hK K) | (clear hK K; clear hK K; refine hK _ _ ?_; clear hK K))) | (apply AWp_ret; try simp only [AThen, ABlock]; apply end_ret; rfl; try simp only [AFr.get, reduceIte, Nat.reduceEqDiff]) | (apply s_store; (solve | (simp only [go_sem]; try rfl)); (solve | (simp only [go_sem]; try rfl)); (solve | (simp only [go_sem]; try rfl))) | (apply s_alloc; decide; exact zc_31; intro b hb) | (apply s_call; decide; (solve | (simp only [go_sem]; try rfl)); (solve | (simp only [go_sem]; try rfl)); apply made_c p q _ (get_fresh hB.box (by assumption)))))
  refine cond_split (by simp only [go_sem]; try rfl) (fun hc => ?_) (fun hc => ?_)
  · cases hc
  obtain ⟨b3, rfl⟩ : ∃ b3, b3 = b := ⟨_, rfl⟩
  have hb3 := hb
  clear hb
  have hB1 := hB.fresh (o := .box 31 [.s [], .v (.int .i64 0), .v (.int .i64 0)]) hb3
  have hq1 := hB1.map
  have hb1 := hB1.box
  cases hf : afind u ms with
  | none =>
    have hk : kfind u (ents ms) = none := by rw [kfind_ents, hf]; rfl
    (repeat' (first | (refine AWp_seq_k (fun K hK => ?_)) | (apply s_region) | (apply s_q; decide; rfl; (solve | (simp only [go_sem, hq1, hb1, hk]; try rfl))) | (apply s_nil; try simp only [AThen, ABlock]; try (first | (refine hK _ _ ?_; clear hK K) | (clear hK K; refine hK _ _ ?_; clear hK K) | (clear hK K; clear hK K; refine hK _ _ ?_; clear hK K))) | (apply AWp_skip; try simp only [AThen, ABlock]; try (first | (refine hK _ _ ?_; clear hK K) | (clear hK K; refine hK _ _ ?_; clear hK K) | (clear hK K; clear hK K; refine hK _ _ ?_; clear hK K))) | (apply AWp_ret; try simp only [AThen, ABlock]; apply end_ret; rfl; try simp only [AFr.get, reduceIte, Nat.reduceEqDiff]) | (apply s_store; (solve | (simp only [go_sem, hq1, hb1, hk]; try rfl)); (solve | (simp only [go_sem, hq1, hb1, hk]; try rfl)); (solve | (simp only [go_sem, hq1, hb1, hk]; try rfl))) | (apply s_alloc; decide; exact zc_31; intro b hb)))
    have h3 := get_fresh (x := .box 31 [.s [], .v (.int .i64 0), .v (.int .i64 0)]) (AHeap.get_put_same b3 (.box 31 [.s [], .v (.int .i64 0), .v (.int .i64 0)]) H) hb
    (repeat' (first | (refine AWp_seq_k (fun K hK => ?_)) | (apply s_region) | (apply s_q; decide; rfl; (solve | (simp only [go_sem, h3]; try rfl))) | (apply s_nil; try simp only [AThen, ABlock]; try (first | (refine hK _ _ ?_; clear hK K) | (clear hK K; refine hK _ _ ?_; clear hK K) | (clear hK K; clear hK K; refine hK _ _ ?_; clear hK K))) | (apply AWp_skip; try simp only [AThen, ABlock]; try (first | (refine hK _ _ ?_; clear hK K) | (clear hK K; refine hK _ _ ?_; clear hK K) | (clear hK K; clear hK K; refine hK _ _ ?_; clear hK K))) | (apply AWp_ret; try simp only [AThen, ABlock]; apply end_ret; rfl; try simp only [AFr.get, reduceIte, Nat.reduceEqDiff]) | (apply s_store; (solve | (simp only [go_sem, h3]; try rfl)); (solve | (simp only [go_sem, h3]; try rfl)); (solve | (simp only [go_sem, h3]; try rfl))) | (apply s_alloc; decide; exact zc_31; intro b hb)))
    refine end_ret (av := .tup [.agg [.s [], .v (.int .i64 0), .v (.int .i64 0)], .v (.bool false)]) (by show resAV X.P _ _ [.cell 4 31, .tmp 5] = _; simp only [go_sem]; try rfl) ?_
    refine ⟨H, Ext.over (Ext.trans (Ext.fresh hb3) (Ext.fresh hb)) hb3, ?_⟩
    simp only [getA, hf] at h
    exact h
  | some x =>
    have hk : kfind u (ents ms) = some (.agg x.cells) := by rw [kfind_ents, hf]; rfl
    (repeat' (first | (refine AWp_seq_k (fun K hK => ?_)) | (apply s_region) | (apply s_q; decide; rfl; (solve | (simp only [go_sem, hq1, hb1, hk, Mark.cells]; try rfl))) | (apply s_nil; try simp only [AThen, ABlock]; try (first | (refine hK _ _ ?_; clear hK K) | (clear hK K; refine hK _ _ ?_; clear hK K) | (clear hK K; clear hK K; refine hK _ _ ?_; clear hK K))) | (apply AWp_skip; try simp only [AThen, ABlock]; try (first | (refine hK _ _ ?_; clear hK K) | (clear hK K; refine hK _ _ ?_; clear hK K) | (clear hK K; clear hK K; refine hK _ _ ?_; clear hK K))) | (apply AWp_ret; try simp only [AThen, ABlock]; apply end_ret; rfl; try simp only [AFr.get, reduceIte, Nat.reduceEqDiff]) | (apply s_store; (solve | (simp only [go_sem, hq1, hb1, hk, Mark.cells]; try rfl)); (solve | (simp only [go_sem, hq1, hb1, hk, Mark.cells]; try rfl)); (solve | (simp only [go_sem, hq1, hb1, hk, Mark.cells]; try rfl))) | (apply s_alloc; decide; exact zc_31; intro b hb)))
    have h3 := get_fresh (x := .box 31 [.s x.user, .v (.int .i64 x.at_), .v (.int .i64 x.ts)]) (AHeap.get_put_same b3 (.box 31 [.s [], .v (.int .i64 0), .v (.int .i64 0)]) H) hb
    (repeat' (first | (refine AWp_seq_k (fun K hK => ?_)) | (apply s_region) | (apply s_q; decide; rfl; (solve | (simp only [go_sem, h3]; try rfl))) | (apply s_nil; try simp only [AThen, ABlock]; try (first | (refine hK _ _ ?_; clear hK K) | (clear hK K; refine hK _ _ ?_; clear hK K) | (clear hK K; clear hK K; refine hK _ _ ?_; clear hK K))) | (apply AWp_skip; try simp only [AThen, ABlock]; try (first | (refine hK _ _ ?_; clear hK K) | (clear hK K; refine hK _ _ ?_; clear hK K) | (clear hK K; clear hK K; refine hK _ _ ?_; clear hK K))) | (apply AWp_ret; try simp only [AThen, ABlock]; apply end_ret; rfl; try simp only [AFr.get, reduceIte, Nat.reduceEqDiff]) | (apply s_store; (solve | (simp only [go_sem, h3]; try rfl)); (solve | (simp only [go_sem, h3]; try rfl)); (solve | (simp only [go_sem, h3]; try rfl))) | (apply s_alloc; decide; exact zc_31; intro b hb)))
    refine end_ret (av := .tup [.agg [.s x.user, .v (.int .i64 x.at_), .v (.int .i64 x.ts)], .v (.bool true)]) (by show resAV X.P _ _ [.cell 4 31, .tmp 5] = _; simp only [go_sem]; try rfl) ?_
    refine ⟨H, Ext.over (Ext.trans (Ext.fresh hb3) (Ext.fresh hb)) hb3, ?_⟩
    simp only [getA, hf] at h
    exact h
end Go.Proofs.Ytpdfgmedbphmkaa
