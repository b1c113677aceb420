/-
  Marks: comparing, fits, few, made, New. Contracts.
-/
import Derived.Test.YtpdfgmedbphmkaaDoorIdent
set_option linter.unusedSimpArgs false
set_option linter.unusedVariables false
set_option maxRecDepth 100000
namespace Go.Proofs.YtpdfgmedbphmkaaDoor
open Go Go.AL
attribute [local irreducible] AOps AWp SOps AE AT ACall AApp

structure Mark where
  user : List UInt8
  at_ : Int
  ts : Int
def Mark.cells (m : Mark) : List AV := [.s m.user, .v (.int .i64 m.at_), .v (.int .i64 m.ts)]



theorem fin {K : AV → AHeap → Prop} {H : AHeap} {a b : AV} (h : K b H) (e : a = b) : K a H := e ▸ h
theorem isNaN_c (n : Int) (H : AHeap) (K : AV → AHeap → Prop) (h : K (.v (.bool false)) H) : ACall X 31 [.v (.int .i64 n)] H K := by
  refine ACall_intro Tryd.func31 rfl (by kernel_rfl) (by rw [Tryd.ntmps31]; simp) ?_; rw [Tryd.ntmps31]; simp only [frame0, Nat.reduceAdd]
  (refine AWp_seq_k (fun K hK => ?_); apply s_region; apply s_q; decide; rfl; (simp only [go_sem]; rfl); apply s_nil; simp only [AThen, ABlock]; refine hK _ _ ?_; clear hK K; refine AWp_seq_k (fun K hK => ?_); apply s_region; (iterate 4 (apply s_q; decide; rfl; (simp only [go_sem]; rfl))); apply s_nil; simp only [AThen, ABlock]; refine hK _ _ ?_; clear hK K; apply AWp_ret)
  exact finB h (by simp)
theorem compare_c (a b : Int) (H : AHeap) (K : AV → AHeap → Prop) (h : K (.v (.int .i64 (cmp a b))) H) : ACall X 25 [.v (.int .i64 a), .v (.int .i64 b)] H K := by
  refine ACall_intro Tryd.func25 rfl (by kernel_rfl) (by rw [Tryd.ntmps25]; simp) ?_; rw [Tryd.ntmps25]; simp only [frame0, Nat.reduceAdd]
  (refine AWp_seq_k (fun K hK => ?_); apply s_region; apply s_q; decide; rfl; (simp only [go_sem]; rfl); apply s_nil; simp only [AThen, ABlock]; refine hK _ _ ?_; clear hK K; refine AWp_seq_k (fun K hK => ?_); apply s_region; apply s_q; decide; rfl; (simp only [go_sem]; rfl); apply s_call; decide; (simp only [go_sem]; rfl); (simp only [go_sem]; rfl); apply isNaN_c; apply s_q; decide; rfl; (simp only [go_sem]; rfl); apply s_nil; simp only [AThen, ABlock]; refine hK _ _ ?_; clear hK K; refine AWp_seq_k (fun K hK => ?_); apply s_region; apply s_q; decide; rfl; (simp only [go_sem]; rfl); apply s_call; decide; (simp only [go_sem]; rfl); (simp only [go_sem]; rfl); apply isNaN_c; apply s_q; decide; rfl; (simp only [go_sem]; rfl); apply s_nil; simp only [AThen, ABlock]; refine hK _ _ ?_; clear hK K; (iterate 2 (refine AWp_seq_k (fun K hK => ?_))); apply s_region; apply s_q; decide; rfl; (simp only [go_sem]; rfl); apply s_nil; simp only [AThen, ABlock]; refine hK _ _ ?_; clear hK K)
  refine cond_split (by simp only [go_sem]; try rfl) (fun hc => ?_) (fun hc => ?_)
  · cases hc
  (apply AWp_skip; simp only [AThen, ABlock]; refine hK _ _ ?_; clear hK K; (iterate 2 (refine AWp_seq_k (fun K hK => ?_))); apply s_region; apply s_q; decide; rfl; (simp only [go_sem]; rfl); apply s_nil; simp only [AThen, ABlock]; refine hK _ _ ?_; clear hK K)
  refine cond_split (by simp only [go_sem]; try rfl) (fun hc => ?_) (fun hc => ?_)
  · cases hc
  (apply AWp_skip; simp only [AThen, ABlock]; refine hK _ _ ?_; clear hK K; (iterate 2 (refine AWp_seq_k (fun K hK => ?_))); apply s_region; (iterate 3 (apply s_q; decide; rfl; (simp only [go_sem]; rfl))); apply s_nil; simp only [AThen, ABlock]; refine hK _ _ ?_; clear hK K)
  refine cond_split (by simp only [go_sem]; try rfl) (fun hc => ?_) (fun hc => ?_)
  · (refine AWp_seq_k (fun K hK => ?_); apply s_region; apply s_q; decide; rfl; (simp only [go_sem]; rfl); apply s_nil; simp only [AThen, ABlock]; refine hK _ _ ?_; clear hK K; apply AWp_ret; simp only [AThen, ABlock]; apply end_ret; rfl; simp only [AFr.get, reduceIte, Nat.reduceEqDiff])
    exact finI h (by simp at hc; simp [cmp, hc])
  (apply AWp_skip; simp only [AThen, ABlock]; refine hK _ _ ?_; clear hK K; (iterate 2 (refine AWp_seq_k (fun K hK => ?_))); apply s_region; (iterate 3 (apply s_q; decide; rfl; (simp only [go_sem]; rfl))); apply s_nil; simp only [AThen, ABlock]; refine hK _ _ ?_; clear hK K)
  refine cond_split (by simp only [go_sem]; try rfl) (fun hd => ?_) (fun hd => ?_)
  · (refine AWp_seq_k (fun K hK => ?_); apply s_region; apply s_q; decide; rfl; (simp only [go_sem]; rfl); apply s_nil; simp only [AThen, ABlock]; refine hK _ _ ?_; clear hK K; apply AWp_ret; simp only [AThen, ABlock]; apply end_ret; rfl; simp only [AFr.get, reduceIte, Nat.reduceEqDiff])
    exact finI h (by simp at hc hd; simp [cmp, hd]; omega)
  (apply AWp_skip; simp only [AThen, ABlock]; refine hK _ _ ?_; clear hK K; refine AWp_seq_k (fun K hK => ?_); apply s_region; apply s_q; decide; rfl; (simp only [go_sem]; rfl); apply s_nil; simp only [AThen, ABlock]; refine hK _ _ ?_; clear hK K; apply AWp_ret)
  exact finI h (by simp at hc hd; unfold cmp; rw [if_neg (by omega), if_neg (by omega)])
def fitsB (n : Int) : Bool := decide (0 ≤ n) && decide (n ≤ 9007199254740991)
theorem fits_c (n : Int) (H : AHeap) (K : AV → AHeap → Prop) (h : K (.v (.bool (fitsB n))) H) : ACall X 23 [.v (.int .i64 n)] H K := by
  refine ACall_intro Tryd.func23 rfl (by kernel_rfl) (by rw [Tryd.ntmps23]; simp) ?_; rw [Tryd.ntmps23]; simp only [frame0, Nat.reduceAdd]
  (refine AWp_seq_k (fun K hK => ?_); apply s_region; apply s_q; decide; rfl; (simp only [go_sem]; rfl); apply s_nil; simp only [AThen, ABlock]; refine hK _ _ ?_; clear hK K; refine AWp_seq_k (fun K hK => ?_); apply s_region; (iterate 3 (apply s_q; decide; rfl; (simp only [go_sem]; rfl))); apply s_spec; decide; rfl; rfl; (simp only [go_sem]; rfl); (simp only [go_sem]; rfl); (simp only [go_sem]; rfl); (simp only [go_sem]; rfl); trivial; apply s_spec; decide; rfl; rfl; (simp only [go_sem]; rfl); (simp only [go_sem]; rfl); (simp only [go_sem]; rfl); (simp only [go_sem]; rfl); simp [condsOk]; apply s_pick; decide; (simp only [go_sem]; rfl); (simp only [go_sem]; rfl); (simp only [go_sem]; rfl); (simp only [go_sem]; rfl); (simp only [go_sem]; rfl); (simp only [go_sem]; rfl); trivial; simp [condsOk]; trivial; apply s_q; decide; rfl; (simp only [go_sem]; rfl); apply s_nil; simp only [AThen, ABlock]; refine hK _ _ ?_; clear hK K; apply AWp_ret)
  refine finB h ?_
  unfold fitsB
  generalize decide (0 ≤ n) = a1, decide (n ≤ 9007199254740991) = a2
  revert a1 a2; decide

def few (l : List Mark) : Bool := decide (l.length ≤ 60) && l.all fun m => decide (m.user.length ≤ 100)

theorem few_c {tt : Bool} (l : List Mark) (H : AHeap) (K : AV → AHeap → Prop) (h : K (.v (.bool (few l))) H) : ACall X 4 [.sl tt (l.map Mark.cells)] H K := by
  refine ACall_intro Tryd.func4 rfl (by kernel_rfl) (by rw [Tryd.ntmps4]; simp) ?_; rw [Tryd.ntmps4]; simp only [frame0, Nat.reduceAdd]
  (refine AWp_seq_k (fun K hK => ?_); apply s_region; apply s_q; decide; rfl; (simp only [go_sem]; rfl); apply s_nil; simp only [AThen, ABlock]; refine hK _ _ ?_; clear hK K; (iterate 2 (refine AWp_seq_k (fun K hK => ?_))); apply s_region; (iterate 3 (apply s_q; decide; rfl; (simp only [go_sem]; rfl))); apply s_nil; simp only [AThen, ABlock]; refine hK _ _ ?_; clear hK K)
  refine cond_split (by simp only [go_sem]; try rfl) (fun hc => ?_) (fun hc => ?_)
  · (refine AWp_seq_k (fun K hK => ?_); apply s_region; apply s_q; decide; rfl; (simp only [go_sem]; rfl); apply s_nil; simp only [AThen, ABlock]; refine hK _ _ ?_; clear hK K; apply AWp_ret; simp only [AThen, ABlock]; apply end_ret; rfl; simp only [AFr.get, reduceIte, Nat.reduceEqDiff])
    have e : few l = false := by simp only [few, decide_eq_true_eq] at hc ⊢; rw [decide_eq_false (by omega), Bool.false_and]
    rw [e] at h; exact h
  · (apply AWp_skip; simp only [AThen, ABlock]; refine hK _ _ ?_; clear hK K; (iterate 2 (refine AWp_seq_k (fun K hK => ?_))); apply s_region; apply s_q; decide; rfl; (simp only [go_sem]; rfl); apply s_nil; simp only [AThen, ABlock]; refine hK _ _ ?_; clear hK K; apply AWp_block)
    have hl : l.length ≤ 60 := by simp at hc; omega
    refine AWp_loop_s (σ := Nat) [0, 3] (fun i => [.sl tt (l.map Mark.cells), .v (.int .i64 i)]) (fun _ => H) (fun i => l.length - i) (fun i => i ≤ l.length ∧ (l.take i).all (fun m => decide (m.user.length ≤ 100)) = true) 0 ⟨Nat.zero_le _, rfl⟩ rfl rfl (fun i hi => ?_)
    simp only [List.zip_cons_cons, List.zip_nil_right]
    ((iterate 2 (refine AWp_seq_k (fun K hK => ?_))); apply s_region; (iterate 4 (apply s_q; decide; rfl; (simp only [go_sem]; rfl))); apply s_nil; simp only [AThen, ABlock]; refine hK _ _ ?_; clear hK K)
    refine cond_split (by simp only [go_sem]; try rfl) (fun hc => ?_) (fun hc => ?_)
    · have hlt : i < l.length := by simpa using hc
      have hm : l[i]? = some l[i] := List.getElem?_eq_getElem hlt
      have hg : (l.map Mark.cells)[i]? = some [.s l[i].user, .v (.int .i64 l[i].at_), .v (.int .i64 l[i].ts)] := by rw [List.getElem?_map, hm]; rfl
      generalize l[i] = m at hm hg
      (apply AWp_skip; simp only [AThen, ABlock]; refine hK _ _ ?_; clear hK K; refine AWp_seq_k (fun K hK => ?_); apply AWp_block; refine AWp_seq_k (fun K hK => ?_); apply s_region; (iterate 7 (apply s_q; decide; rfl; (simp only [go_sem, hg]; rfl))); apply s_nil; simp only [AThen, ABlock]; refine hK _ _ ?_; clear hK K)
      refine cond_split (by simp only [go_sem]; try rfl) (fun hd => ?_) (fun hd => ?_)
      · (refine AWp_seq_k (fun K hK => ?_); apply s_region; apply s_q; decide; rfl; (simp only [go_sem]; rfl); apply s_nil; simp only [AThen, ABlock]; refine hK _ _ ?_; clear hK K; apply AWp_ret; simp only [AThen, ABlock]; apply end_ret; rfl; simp only [AFr.get, reduceIte, Nat.reduceEqDiff])
        have e : few l = false := by
          simp only [few]
          rw [not_all hm (by simp at hd ⊢; omega), Bool.and_false]
        rw [e] at h; exact h
      · (apply AWp_skip; simp only [AThen, ABlock]; refine hK _ _ ?_; clear hK K; apply s_region; (iterate 3 (apply s_q; decide; rfl; (simp only [go_sem]; rfl))); apply s_nil; simp only [AThen, ABlock])
        refine ⟨i + 1, by omega, ⟨by omega, ?_⟩, ?_, by trivial⟩
        · rw [all_take hm hi.2]; simp at hd ⊢; omega
        · simp only [getAll, List.map_cons, List.map_nil, AFr.get]
          rw [wrapS hlt (by omega)]; rfl
    · have hge : l.length ≤ i := by simpa using hc
      (apply AWp_exit; simp only [AThen, ABlock, reduceIte, Nat.reduceEqDiff]; clear hK K; refine hK _ _ ?_; clear hK K; refine AWp_seq_k (fun K hK => ?_); apply s_region; apply s_q; decide; rfl; (simp only [go_sem]; rfl); apply s_nil; simp only [AThen, ABlock]; refine hK _ _ ?_; clear hK K; apply AWp_ret)
      have e : few l = true := by
        simp only [few]
        rw [decide_eq_true hl, Bool.true_and, ← hi.2, List.take_of_length_le hge]
      rw [e] at h; exact h

theorem made_c (b m : Nat) (H : AHeap) (hb : H.get b = some (.box 40 [.v (.map (some m))])) (K : AV → AHeap → Prop) (h : K (.v (.bool true)) H) : ACall X 22 [.v (.pointer (some ⟨b, 0, none⟩))] H K := by
  refine ACall_intro Tryd.func22 rfl (by kernel_rfl) (by rw [Tryd.ntmps22]; simp) ?_; rw [Tryd.ntmps22]; simp only [frame0, Nat.reduceAdd]
  (refine AWp_seq_k (fun K hK => ?_); apply s_region; apply s_q; decide; rfl; (simp only [go_sem, hb]; rfl); apply s_nil; simp only [AThen, ABlock]; refine hK _ _ ?_; clear hK K; refine AWp_seq_k (fun K hK => ?_); apply s_region; (iterate 3 (apply s_q; decide; rfl; (simp only [go_sem, hb]; rfl))); (iterate 5 (apply s_spec; decide; rfl; rfl; (simp only [go_sem, hb]; rfl); (simp only [go_sem, hb]; rfl); (simp only [go_sem, hb]; rfl); (simp only [go_sem, hb]; rfl); trivial)); apply s_pick; decide; (simp only [go_sem, hb]; rfl); (simp only [go_sem, hb]; rfl); (simp only [go_sem, hb]; rfl); (simp only [go_sem, hb]; rfl); (simp only [go_sem, hb]; rfl); (simp only [go_sem, hb]; rfl); trivial; trivial; trivial; apply s_q; decide; rfl; (simp only [go_sem, hb]; rfl); apply s_nil; simp only [AThen, ABlock]; refine hK _ _ ?_; clear hK K; apply AWp_ret)
  exact h
theorem new_c (H : AHeap) (K : AV → AHeap → Prop) (h : ∀ m b, H.get m = none → (H.put m (.smap [])).get b = none → K (.v (.pointer (some ⟨b, 0, none⟩))) ((H.put m (.smap [])).put b (.box 40 [.v (.map (some m))]))) : ACall X 15 [] H K := by
  refine ACall_intro Tryd.func15 rfl (by kernel_rfl) (by rw [Tryd.ntmps15]; simp) ?_; rw [Tryd.ntmps15]; simp only [frame0, Nat.reduceAdd]
  (refine AWp_seq_k (fun K hK => ?_); apply s_region; apply s_q; decide; rfl; (simp only [go_sem]; rfl); apply s_nil; simp only [AThen, ABlock]; refine hK _ _ ?_; clear hK K; refine AWp_seq_k (fun K hK => ?_); apply s_region; apply s_smap; decide; exact mp_38; intro b hb; apply s_q; decide; rfl; (simp only [go_sem]; rfl); apply s_box; decide; (simp only [go_sem]; rfl); (simp only [go_sem]; rfl); intro b hb; apply s_q; decide; rfl; (simp only [go_sem]; rfl); apply s_nil; simp only [AThen, ABlock]; refine hK _ _ ?_; clear hK K; apply AWp_ret)
  exact h _ _ ‹_› ‹_›
end Go.Proofs.YtpdfgmedbphmkaaDoor
