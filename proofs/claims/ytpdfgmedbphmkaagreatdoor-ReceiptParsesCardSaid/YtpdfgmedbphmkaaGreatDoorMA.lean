/-
  Marks: comparing, fits, few, made, New. Contracts.
-/
import Derived.Test.YtpdfgmedbphmkaaGreatDoorIdent
set_option linter.unusedSimpArgs false
set_option linter.unusedVariables false
set_option maxRecDepth 100000
namespace Go.Proofs.YtpdfgmedbphmkaaGreatDoor
open Go Go.AL
attribute [local irreducible] AOps AWp SOps AE AT ACall AApp

structure Mark where
  user : List UInt8
  at_ : Int
  ts : Int
def Mark.cells (m : Mark) : List AV := [.s m.user, .v (.int .i64 m.at_), .v (.int .i64 m.ts)]



theorem fin {K : AV → AHeap → Prop} {H : AHeap} {a b : AV} (h : K b H) (e : a = b) : K a H := e ▸ h
theorem isNaN_c (n : Int) (H : AHeap) (K : AV → AHeap → Prop) (h : K (.v (.bool false)) H) : ACall X 46 [.v (.int .i64 n)] H K := by
  refine ACall_intro Tryz.func46 rfl (by kernel_rfl) (by rw [Tryz.ntmps46]; simp) ?_; rw [Tryz.ntmps46]; simp only [frame0, Nat.reduceAdd]
  (refine AWp_seq_k (fun K hK => ?_); apply s_region; apply s_q; decide; rfl; (simp only [go_sem]; rfl); apply s_nil; simp only [AThen, ABlock]; refine hK _ _ ?_; clear hK K; refine AWp_seq_k (fun K hK => ?_); apply s_region; (iterate 4 (apply s_q; decide; rfl; (simp only [go_sem]; rfl))); apply s_nil; simp only [AThen, ABlock]; refine hK _ _ ?_; clear hK K; apply AWp_ret)
  exact finB h (by simp)
theorem compare_c (a b : Int) (H : AHeap) (K : AV → AHeap → Prop) (h : K (.v (.int .i64 (cmp a b))) H) : ACall X 32 [.v (.int .i64 a), .v (.int .i64 b)] H K := by
  refine ACall_intro Tryz.func32 rfl (by kernel_rfl) (by rw [Tryz.ntmps32]; simp) ?_; rw [Tryz.ntmps32]; simp only [frame0, Nat.reduceAdd]
  (refine AWp_seq_k (fun K hK => ?_); apply s_region; apply s_q; decide; rfl; (simp only [go_sem]; rfl); apply s_nil; simp only [AThen, ABlock]; refine hK _ _ ?_; clear hK K; refine AWp_seq_k (fun K hK => ?_); apply s_region; apply s_q; decide; rfl; (simp only [go_sem]; rfl); apply s_call; decide; (simp only [go_sem]; rfl); (simp only [go_sem]; rfl); apply isNaN_c; apply s_q; decide; rfl; (simp only [go_sem]; rfl); apply s_nil; simp only [AThen, ABlock]; refine hK _ _ ?_; clear hK K; refine AWp_seq_k (fun K hK => ?_); apply s_region; apply s_q; decide; rfl; (simp only [go_sem]; rfl); apply s_call; decide; (simp only [go_sem]; rfl); (simp only [go_sem]; rfl); apply isNaN_c; apply s_q; decide; rfl; (simp only [go_sem]; rfl); apply s_nil; simp only [AThen, ABlock]; refine hK _ _ ?_; clear hK K; (iterate 2 (refine AWp_seq_k (fun K hK => ?_))); apply s_region; apply s_q; decide; rfl; (simp only [go_sem]; rfl); apply s_nil; simp only [AThen, ABlock]; refine hK _ _ ?_; clear hK K)
  refine cond_split (by simp only [go_sem]; try rfl) (fun hc => ?_) (fun hc => ?_)
  · cases hc
  (apply AWp_skip; simp only [AThen, ABlock]; refine hK _ _ ?_; clear hK K; (iterate 2 (refine AWp_seq_k (fun K hK => ?_))); apply s_region; apply s_q; decide; rfl; (simp only [go_sem]; rfl); apply s_nil; simp only [AThen, ABlock]; refine hK _ _ ?_; clear hK K)
  refine cond_split (by simp only [go_sem]; try rfl) (fun hc => ?_) (fun hc => ?_)
  · cases hc
  (apply AWp_skip; simp only [AThen, ABlock]; refine hK _ _ ?_; clear hK K; (iterate 2 (refine AWp_seq_k (fun K hK => ?_))); apply s_region; (iterate 3 (apply s_q; decide; rfl; (simp only [go_sem]; rfl))); apply s_nil; simp only [AThen, ABlock]; refine hK _ _ ?_; clear hK K)
  refine cond_split (by simp only [go_sem]; try rfl) (fun hc => ?_) (fun hc => ?_)
  · (refine AWp_seq_k (fun K hK => ?_); apply s_region; apply s_q; decide; rfl; (simp only [go_sem]; rfl); apply s_nil; simp only [AThen, ABlock]; refine hK _ _ ?_; clear hK K; apply AWp_ret; simp only [AThen, ABlock]; apply end_ret; rfl; simp only [AFr.get, reduceIte, Nat.reduceEqDiff])
    exact finI h (by simp at hc; simp [cmp, hc])
  (apply AWp_skip; simp only [AThen, ABlock]; refine hK _ _ ?_; clear hK K; (iterate 2 (refine AWp_seq_k (fun K hK => ?_))); apply s_region; (iterate 3 (apply s_q; decide; rfl; (simp only [go_sem]; rfl))); apply s_nil; simp only [AThen, ABlock]; refine hK _ _ ?_; clear hK K)
  refine cond_split (by simp only [go_sem]; try rfl) (fun hd => ?_) (fun hd => ?_)
  · (refine AWp_seq_k (fun K hK => ?_); apply s_region; apply s_q; decide; rfl; (simp only [go_sem]; rfl); apply s_nil; simp only [AThen, ABlock]; refine hK _ _ ?_; clear hK K; apply AWp_ret; simp only [AThen, ABlock]; apply end_ret; rfl; simp only [AFr.get, reduceIte, Nat.reduceEqDiff])
    exact finI h (by simp at hc hd; simp [cmp, hd]; omega)
  (apply AWp_skip; simp only [AThen, ABlock]; refine hK _ _ ?_; clear hK K; refine AWp_seq_k (fun K hK => ?_); apply s_region; apply s_q; decide; rfl; (simp only [go_sem]; rfl); apply s_nil; simp only [AThen, ABlock]; refine hK _ _ ?_; clear hK K; apply AWp_ret)
  exact finI h (by simp at hc hd; unfold cmp; rw [if_neg (by omega), if_neg (by omega)])
def fitsB (n : Int) : Bool := decide (0 ≤ n) && decide (n ≤ 9007199254740991)
theorem fits_c (n : Int) (H : AHeap) (K : AV → AHeap → Prop) (h : K (.v (.bool (fitsB n))) H) : ACall X 30 [.v (.int .i64 n)] H K := by
  refine ACall_intro Tryz.func30 rfl (by kernel_rfl) (by rw [Tryz.ntmps30]; simp) ?_; rw [Tryz.ntmps30]; simp only [frame0, Nat.reduceAdd]
  (refine AWp_seq_k (fun K hK => ?_); apply s_region; apply s_q; decide; rfl; (simp only [go_sem]; rfl); apply s_nil; simp only [AThen, ABlock]; refine hK _ _ ?_; clear hK K; refine AWp_seq_k (fun K hK => ?_); apply s_region; (iterate 3 (apply s_q; decide; rfl; (simp only [go_sem]; rfl))); apply s_spec; decide; rfl; rfl; (simp only [go_sem]; rfl); (simp only [go_sem]; rfl); (simp only [go_sem]; rfl); (simp only [go_sem]; rfl); trivial; apply s_spec; decide; rfl; rfl; (simp only [go_sem]; rfl); (simp only [go_sem]; rfl); (simp only [go_sem]; rfl); (simp only [go_sem]; rfl); simp [condsOk]; apply s_pick; decide; (simp only [go_sem]; rfl); (simp only [go_sem]; rfl); (simp only [go_sem]; rfl); (simp only [go_sem]; rfl); (simp only [go_sem]; rfl); (simp only [go_sem]; rfl); trivial; simp [condsOk]; trivial; apply s_q; decide; rfl; (simp only [go_sem]; rfl); apply s_nil; simp only [AThen, ABlock]; refine hK _ _ ?_; clear hK K; apply AWp_ret)
  refine finB h ?_
  unfold fitsB
  generalize decide (0 ≤ n) = a1, decide (n ≤ 9007199254740991) = a2
  revert a1 a2; decide

def few (l : List Mark) : Bool := decide (l.length ≤ 60) && l.all fun m => decide (m.user.length ≤ 100)

theorem made_c (b m : Nat) (H : AHeap) (hb : H.get b = some (.box 55 [.v (.map (some m))])) (K : AV → AHeap → Prop) (h : K (.v (.bool true)) H) : ACall X 29 [.v (.pointer (some ⟨b, 0, none⟩))] H K := by
  refine ACall_intro Tryz.func29 rfl (by kernel_rfl) (by rw [Tryz.ntmps29]; simp) ?_; rw [Tryz.ntmps29]; simp only [frame0, Nat.reduceAdd]
  (refine AWp_seq_k (fun K hK => ?_); apply s_region; apply s_q; decide; rfl; (simp only [go_sem, hb]; rfl); apply s_nil; simp only [AThen, ABlock]; refine hK _ _ ?_; clear hK K; refine AWp_seq_k (fun K hK => ?_); apply s_region; (iterate 3 (apply s_q; decide; rfl; (simp only [go_sem, hb]; rfl))); (iterate 5 (apply s_spec; decide; rfl; rfl; (simp only [go_sem, hb]; rfl); (simp only [go_sem, hb]; rfl); (simp only [go_sem, hb]; rfl); (simp only [go_sem, hb]; rfl); trivial)); apply s_pick; decide; (simp only [go_sem, hb]; rfl); (simp only [go_sem, hb]; rfl); (simp only [go_sem, hb]; rfl); (simp only [go_sem, hb]; rfl); (simp only [go_sem, hb]; rfl); (simp only [go_sem, hb]; rfl); trivial; trivial; trivial; apply s_q; decide; rfl; (simp only [go_sem, hb]; rfl); apply s_nil; simp only [AThen, ABlock]; refine hK _ _ ?_; clear hK K; apply AWp_ret)
  exact h
theorem new_c (H : AHeap) (K : AV → AHeap → Prop) (h : ∀ m b, H.get m = none → (H.put m (.smap [])).get b = none → K (.v (.pointer (some ⟨b, 0, none⟩))) ((H.put m (.smap [])).put b (.box 55 [.v (.map (some m))]))) : ACall X 15 [] H K := by
  refine ACall_intro Tryz.func15 rfl (by kernel_rfl) (by rw [Tryz.ntmps15]; simp) ?_; rw [Tryz.ntmps15]; simp only [frame0, Nat.reduceAdd]
  (refine AWp_seq_k (fun K hK => ?_); apply s_region; apply s_q; decide; rfl; (simp only [go_sem]; rfl); apply s_nil; simp only [AThen, ABlock]; refine hK _ _ ?_; clear hK K; refine AWp_seq_k (fun K hK => ?_); apply s_region; apply s_smap; decide; exact mp_53; intro b hb; apply s_q; decide; rfl; (simp only [go_sem]; rfl); apply s_box; decide; (simp only [go_sem]; rfl); (simp only [go_sem]; rfl); intro b hb; apply s_q; decide; rfl; (simp only [go_sem]; rfl); apply s_nil; simp only [AThen, ABlock]; refine hK _ _ ?_; clear hK K; apply AWp_ret)
  exact h _ _ ‹_› ‹_›
end Go.Proofs.YtpdfgmedbphmkaaGreatDoor
