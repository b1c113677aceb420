/-
  Names of users, servers, types. Contracts.
-/
import Derived.Test.YtpdfgmedbphmkaaDoorLib
import Derived.Test.YtpdfgmedbphmkaaDoorAL4
set_option linter.unusedSimpArgs false
set_option linter.unusedVariables false
set_option maxRecDepth 100000
namespace Go.Proofs.YtpdfgmedbphmkaaDoor
open Go Go.AL
attribute [local irreducible] AOps AWp SOps AE AT ACall AApp

def smallB (c : Int) : Bool := (decide (97 ≤ c) && decide (c ≤ 122)) || (decide (48 ≤ c) && decide (c ≤ 57)) || decide (c = 46)
def serverB (c : Int) : Bool := smallB c || decide (c = 45)
def localB (c : Int) : Bool := smallB c || decide (c = 45) || decide (c = 95)

theorem small_c (c : Int) (H : AHeap) (K : AV → AHeap → Prop) (h : K (.v (.bool (smallB c))) H) : ACall X 55 [.v (.int .u8 c)] H K := by
  refine ACall_intro Tryd.func55 rfl (by kernel_rfl) (by rw [Tryd.ntmps55]; simp) ?_; rw [Tryd.ntmps55]; simp only [frame0, Nat.reduceAdd]
  (refine AWp_seq_k (fun K hK => ?_); apply s_region; apply s_q; decide; rfl; (simp only [go_sem]; rfl); apply s_nil; simp only [AThen, ABlock]; refine hK _ _ ?_; clear hK K; refine AWp_seq_k (fun K hK => ?_); apply s_region; (iterate 3 (apply s_q; decide; rfl; (simp only [go_sem]; rfl))); apply s_spec; decide; rfl; rfl; (simp only [go_sem]; rfl); (simp only [go_sem]; rfl); (simp only [go_sem]; rfl); (simp only [go_sem]; rfl); trivial; apply s_spec; decide; rfl; rfl; (simp only [go_sem]; rfl); (simp only [go_sem]; rfl); (simp only [go_sem]; rfl); (simp only [go_sem]; rfl); simp [condsOk]; apply s_pick; decide; (simp only [go_sem]; rfl); (simp only [go_sem]; rfl); (simp only [go_sem]; rfl); (simp only [go_sem]; rfl); (simp only [go_sem]; rfl); (simp only [go_sem]; rfl); trivial; simp [condsOk]; trivial; apply s_q; decide; rfl; (simp only [go_sem]; rfl); apply s_spec; decide; rfl; rfl; (simp only [go_sem]; rfl); (simp only [go_sem]; rfl); (simp only [go_sem]; rfl); (simp only [go_sem]; rfl); trivial; (iterate 2 (apply s_spec; decide; rfl; rfl; (simp only [go_sem]; rfl); (simp only [go_sem]; rfl); (simp only [go_sem]; rfl); (simp only [go_sem]; rfl); simp [condsOk])); apply s_spec; decide; rfl; rfl; (simp only [go_sem]; rfl); (simp only [go_sem]; rfl); (simp only [go_sem]; rfl); (simp only [go_sem]; rfl); trivial; apply s_spec; decide; rfl; rfl; (simp only [go_sem]; rfl); (simp only [go_sem]; rfl); (simp only [go_sem]; rfl); (simp only [go_sem]; rfl); simp [condsOk]; apply s_pickg; decide; (simp only [go_sem]; rfl); (simp only [go_sem]; rfl); (simp only [go_sem]; rfl); (simp only [go_sem]; rfl); (simp only [go_sem]; rfl); (simp only [go_sem]; rfl); (simp only [go_sem]; rfl); (simp only [go_sem]; rfl); simp [condsOk]; simp [condsOk]; trivial; apply s_pick; decide; (simp only [go_sem]; rfl); (simp only [go_sem]; rfl); (simp only [go_sem]; rfl); (simp only [go_sem]; rfl); (simp only [go_sem]; rfl); (simp only [go_sem]; rfl); trivial; trivial; simp [condsOk]; apply s_q; decide; rfl; (simp only [go_sem]; rfl); apply s_spec; decide; rfl; rfl; (simp only [go_sem]; rfl); (simp only [go_sem]; rfl); (simp only [go_sem]; rfl); (simp only [go_sem]; rfl); trivial; apply s_spec; decide; rfl; rfl; (simp only [go_sem]; rfl); (simp only [go_sem]; rfl); (simp only [go_sem]; rfl); (simp only [go_sem]; rfl); simp [condsOk]; apply s_pick; decide; (simp only [go_sem]; rfl); (simp only [go_sem]; rfl); (simp only [go_sem]; rfl); (simp only [go_sem]; rfl); (simp only [go_sem]; rfl); (simp only [go_sem]; rfl); trivial; trivial; simp [condsOk]; apply s_q; decide; rfl; (simp only [go_sem]; rfl); apply s_nil; simp only [AThen, ABlock]; refine hK _ _ ?_; clear hK K; apply AWp_ret)
  refine finB h ?_
  unfold smallB
  generalize decide (97 ≤ c) = a1, decide (c ≤ 122) = a2, decide (48 ≤ c) = a3, decide (c ≤ 57) = a4, decide (c = 46) = a5
  revert a1 a2 a3 a4 a5; decide
theorem serverB_c (c : Int) (H : AHeap) (K : AV → AHeap → Prop) (h : K (.v (.bool (serverB c))) H) : ACall X 56 [.v (.int .u8 c)] H K := by
  refine ACall_intro Tryd.func56 rfl (by kernel_rfl) (by rw [Tryd.ntmps56]; simp) ?_; rw [Tryd.ntmps56]; simp only [frame0, Nat.reduceAdd]
  (refine AWp_seq_k (fun K hK => ?_); apply s_region; apply s_q; decide; rfl; (simp only [go_sem]; rfl); apply s_nil; simp only [AThen, ABlock]; refine hK _ _ ?_; clear hK K; refine AWp_seq_k (fun K hK => ?_); apply s_region; apply s_q; decide; rfl; (simp only [go_sem]; rfl); apply s_call; decide; (simp only [go_sem]; rfl); (simp only [go_sem]; rfl); apply small_c; apply s_q; decide; rfl; (simp only [go_sem]; rfl); apply s_spec; decide; rfl; rfl; (simp only [go_sem]; rfl); (simp only [go_sem]; rfl); (simp only [go_sem]; rfl); (simp only [go_sem]; rfl); trivial; apply s_spec; decide; rfl; rfl; (simp only [go_sem]; rfl); (simp only [go_sem]; rfl); (simp only [go_sem]; rfl); (simp only [go_sem]; rfl); simp [condsOk]; apply s_pick; decide; (simp only [go_sem]; rfl); (simp only [go_sem]; rfl); (simp only [go_sem]; rfl); (simp only [go_sem]; rfl); (simp only [go_sem]; rfl); (simp only [go_sem]; rfl); trivial; trivial; simp [condsOk]; apply s_q; decide; rfl; (simp only [go_sem]; rfl); apply s_nil; simp only [AThen, ABlock]; refine hK _ _ ?_; clear hK K; apply AWp_ret)
  refine finB h ?_
  unfold serverB
  generalize smallB c = a1, decide (c = 45) = a2
  revert a1 a2; decide
theorem localB_c (c : Int) (H : AHeap) (K : AV → AHeap → Prop) (h : K (.v (.bool (localB c))) H) : ACall X 54 [.v (.int .u8 c)] H K := by
  refine ACall_intro Tryd.func54 rfl (by kernel_rfl) (by rw [Tryd.ntmps54]; simp) ?_; rw [Tryd.ntmps54]; simp only [frame0, Nat.reduceAdd]
  (refine AWp_seq_k (fun K hK => ?_); apply s_region; apply s_q; decide; rfl; (simp only [go_sem]; rfl); apply s_nil; simp only [AThen, ABlock]; refine hK _ _ ?_; clear hK K; refine AWp_seq_k (fun K hK => ?_); apply s_region; apply s_q; decide; rfl; (simp only [go_sem]; rfl); apply s_call; decide; (simp only [go_sem]; rfl); (simp only [go_sem]; rfl); apply small_c; apply s_q; decide; rfl; (simp only [go_sem]; rfl); apply s_spec; decide; rfl; rfl; (simp only [go_sem]; rfl); (simp only [go_sem]; rfl); (simp only [go_sem]; rfl); (simp only [go_sem]; rfl); trivial; apply s_spec; decide; rfl; rfl; (simp only [go_sem]; rfl); (simp only [go_sem]; rfl); (simp only [go_sem]; rfl); (simp only [go_sem]; rfl); simp [condsOk]; apply s_pick; decide; (simp only [go_sem]; rfl); (simp only [go_sem]; rfl); (simp only [go_sem]; rfl); (simp only [go_sem]; rfl); (simp only [go_sem]; rfl); (simp only [go_sem]; rfl); trivial; trivial; simp [condsOk]; apply s_q; decide; rfl; (simp only [go_sem]; rfl); apply s_spec; decide; rfl; rfl; (simp only [go_sem]; rfl); (simp only [go_sem]; rfl); (simp only [go_sem]; rfl); (simp only [go_sem]; rfl); trivial; apply s_spec; decide; rfl; rfl; (simp only [go_sem]; rfl); (simp only [go_sem]; rfl); (simp only [go_sem]; rfl); (simp only [go_sem]; rfl); simp [condsOk]; apply s_pick; decide; (simp only [go_sem]; rfl); (simp only [go_sem]; rfl); (simp only [go_sem]; rfl); (simp only [go_sem]; rfl); (simp only [go_sem]; rfl); (simp only [go_sem]; rfl); trivial; trivial; simp [condsOk]; apply s_q; decide; rfl; (simp only [go_sem]; rfl); apply s_nil; simp only [AThen, ABlock]; refine hK _ _ ?_; clear hK K; apply AWp_ret)
  refine finB h ?_
  unfold localB
  generalize smallB c = a1, decide (c = 45) = a2, decide (c = 95) = a3
  revert a1 a2 a3; decide
def typeB (c : Int) : Bool := smallB c || decide (c = 95)
def ofB (p : UInt8 → Bool) (n : Int) (l : List UInt8) : Bool := !(decide (l = [])) && decide ((l.length : Int) ≤ n) && l.all p
theorem of_c (p : UInt8 → Bool) (g : FuncId) (hg : ∀ (c : UInt8) (H : AHeap) (K : AV → AHeap → Prop), K (.v (.bool (p c))) H → ACall X g [.v (.int .u8 c.toNat)] H K) (n : Int) (hn : n ≤ 1000000) (l : List UInt8) (H : AHeap) (K : AV → AHeap → Prop) (h : K (.v (.bool (ofB p n l))) H) :
    ACall X 53 [.s l, .v (.int .i64 n), .fn (.func g) [] []] H K := by
  refine ACall_intro Tryd.func53 rfl (by kernel_rfl) (by rw [Tryd.ntmps53]; simp) ?_; rw [Tryd.ntmps53]; simp only [frame0, Nat.reduceAdd]
  (refine AWp_seq_k (fun K hK => ?_); apply s_region; apply s_q; decide; rfl; (simp only [go_sem]; rfl); apply s_nil; simp only [AThen, ABlock]; refine hK _ _ ?_; clear hK K; (iterate 2 (refine AWp_seq_k (fun K hK => ?_))); apply s_region; (iterate 3 (apply s_q; decide; rfl; (simp only [go_sem]; rfl))); apply s_spec; decide; rfl; rfl; (simp only [go_sem]; rfl); (simp only [go_sem]; rfl); (simp only [go_sem]; rfl); (simp only [go_sem]; rfl); trivial; apply s_spec; decide; rfl; rfl; (simp only [go_sem]; rfl); (simp only [go_sem]; rfl); (simp only [go_sem]; rfl); (simp only [go_sem]; rfl); simp [condsOk]; apply s_spec; decide; rfl; rfl; (simp only [go_sem]; rfl); (simp only [go_sem]; rfl); (simp only [go_sem]; rfl); (simp only [go_sem]; rfl); trivial; apply s_spec; decide; rfl; rfl; (simp only [go_sem]; rfl); (simp only [go_sem]; rfl); (simp only [go_sem]; rfl); (simp only [go_sem]; rfl); simp [condsOk]; apply s_pick; decide; (simp only [go_sem]; rfl); (simp only [go_sem]; rfl); (simp only [go_sem]; rfl); (simp only [go_sem]; rfl); (simp only [go_sem]; rfl); (simp only [go_sem]; rfl); trivial; trivial; simp [condsOk]; apply s_nil; simp only [AThen, ABlock]; refine hK _ _ ?_; clear hK K)
  refine cond_split (by simp only [go_sem]; try rfl) (fun hc => ?_) (fun hc => ?_)
  · (refine AWp_seq_k (fun K hK => ?_); apply s_region; apply s_q; decide; rfl; (simp only [go_sem]; rfl); apply s_nil; simp only [AThen, ABlock]; refine hK _ _ ?_; clear hK K; apply AWp_ret; simp only [AThen, ABlock]; apply end_ret; rfl; simp only [AFr.get, reduceIte, Nat.reduceEqDiff])
    refine finB h ?_
    unfold ofB
    by_cases h0 : l = []
    · simp [h0]
    · have : ¬ (l.length : Int) ≤ n := by
        simp only [show ({ data := #[] } : ByteArray).data.toList = [] from rfl, decide_eq_false h0] at hc
        simpa using hc
      rw [decide_eq_false this]; simp
  · (apply AWp_skip; simp only [AThen, ABlock]; refine hK _ _ ?_; clear hK K; (iterate 2 (refine AWp_seq_k (fun K hK => ?_))); apply s_region; (iterate 3 (apply s_q; decide; rfl; (simp only [go_sem]; rfl))); apply s_nil; simp only [AThen, ABlock]; refine hK _ _ ?_; clear hK K; apply AWp_block)
    have hl0 : l ≠ [] := by
      rintro rfl
      simp only [show ({ data := #[] } : ByteArray).data.toList = [] from rfl] at hc
      simp at hc
    have hln : (l.length : Int) ≤ n := by
      simp only [show ({ data := #[] } : ByteArray).data.toList = [] from rfl, decide_eq_false hl0] at hc
      simpa using hc
    refine AWp_loop_s (σ := Nat) [0, 2, 17, 18] (fun i => [.s l, .fn (.func g) [] [], .v (.int .i64 l.length), .v (.int .i64 i)]) (fun _ => H) (fun i => l.length - i) (fun i => i ≤ l.length ∧ (l.take i).all p = true) 0 ⟨Nat.zero_le _, rfl⟩ rfl rfl (fun i hi => ?_)
    simp only [List.zip_cons_cons, List.zip_nil_right]
    (refine AWp_seq_k (fun K hK => ?_); apply s_region; apply s_q; decide; rfl; (simp only [go_sem]; rfl); apply s_nil; simp only [AThen, ABlock]; refine hK _ _ ?_; clear hK K; refine AWp_seq_k (fun K hK => ?_))
    refine cond_split (by simp only [go_sem]; try rfl) (fun hc => ?_) (fun hc => ?_)
    · have hlt : i < l.length := by simpa using hc
      obtain ⟨c, hm⟩ := getc hlt
      (apply AWp_skip; simp only [AThen, ABlock]; refine hK _ _ ?_; clear hK K; refine AWp_seq_k (fun K hK => ?_); apply AWp_block; refine AWp_seq_k (fun K hK => ?_); apply s_region; (iterate 2 (apply s_q; decide; rfl; (simp only [go_sem, hm]; rfl))); apply s_nil; simp only [AThen, ABlock]; refine hK _ _ ?_; clear hK K; refine AWp_seq_k (fun K hK => ?_); apply s_region; (iterate 4 (apply s_q; decide; rfl; (simp only [go_sem, hm]; rfl))); apply s_call; decide; (simp only [go_sem, hm]; rfl); (simp only [go_sem, hm]; rfl); apply hg; apply s_q; decide; rfl; (simp only [go_sem, hm]; rfl); apply s_nil; simp only [AThen, ABlock]; refine hK _ _ ?_; clear hK K)
      refine cond_split (by simp only [go_sem]; try rfl) (fun hd => ?_) (fun hd => ?_)
      · (refine AWp_seq_k (fun K hK => ?_); apply s_region; apply s_q; decide; rfl; (simp only [go_sem]; rfl); apply s_nil; simp only [AThen, ABlock]; refine hK _ _ ?_; clear hK K; apply AWp_ret; simp only [AThen, ABlock]; apply end_ret; rfl; simp only [AFr.get, reduceIte, Nat.reduceEqDiff])
        refine finB h ?_
        unfold ofB
        rw [not_all hm (by simpa using hd), Bool.and_false]
      · (apply AWp_skip; simp only [AThen, ABlock]; refine hK _ _ ?_; clear hK K; apply s_region; (iterate 2 (apply s_q; decide; rfl; (simp only [go_sem]; rfl))); apply s_nil; simp only [AThen, ABlock])
        refine ⟨i + 1, by omega, ⟨by omega, ?_⟩, ?_, by trivial⟩
        · rw [all_take hm hi.2]; simpa using hd
        · simp only [getAll, List.map_cons, List.map_nil, AFr.get]
          rw [wrapS hlt (by omega)]; rfl
    · have hge : l.length ≤ i := by simpa using hc
      (apply AWp_exit; simp only [AThen, ABlock, reduceIte, Nat.reduceEqDiff]; clear hK K; refine hK _ _ ?_; clear hK K; refine AWp_seq_k (fun K hK => ?_); apply s_region; apply s_q; decide; rfl; (simp only [go_sem]; rfl); apply s_nil; simp only [AThen, ABlock]; refine hK _ _ ?_; clear hK K; apply AWp_ret)
      refine finB h ?_
      unfold ofB
      have ha : l.all p = true := by rw [← hi.2, List.take_of_length_le hge]
      rw [decide_eq_false hl0, decide_eq_true hln, ha]; rfl

def isLocal (l : List UInt8) : Bool := ofB (fun c => localB c.toNat) 32 l
def isServer (l : List UInt8) : Bool := ofB (fun c => serverB c.toNat) 32 l
theorem local_c (l : List UInt8) (H : AHeap) (K : AV → AHeap → Prop) (h : K (.v (.bool (isLocal l))) H) : ACall X 41 [.s l] H K := by
  refine ACall_intro Tryd.func41 rfl (by kernel_rfl) (by rw [Tryd.ntmps41]; simp) ?_; rw [Tryd.ntmps41]; simp only [frame0, Nat.reduceAdd]
  (refine AWp_seq_k (fun K hK => ?_); apply s_region; apply s_q; decide; rfl; (simp only [go_sem]; rfl); apply s_nil; simp only [AThen, ABlock]; refine hK _ _ ?_; clear hK K; refine AWp_seq_k (fun K hK => ?_); apply s_region; apply s_q; decide; rfl; (simp only [go_sem]; rfl); apply s_call; decide; (simp only [go_sem]; rfl); (simp only [go_sem]; rfl); apply of_c (fun c => localB c.toNat) 54 (fun c H K h => localB_c _ H K h) 32 (by decide); apply s_q; decide; rfl; (simp only [go_sem]; rfl); apply s_nil; simp only [AThen, ABlock]; refine hK _ _ ?_; clear hK K; apply AWp_ret)
  exact h
theorem server_c (l : List UInt8) (H : AHeap) (K : AV → AHeap → Prop) (h : K (.v (.bool (isServer l))) H) : ACall X 42 [.s l] H K := by
  refine ACall_intro Tryd.func42 rfl (by kernel_rfl) (by rw [Tryd.ntmps42]; simp) ?_; rw [Tryd.ntmps42]; simp only [frame0, Nat.reduceAdd]
  (refine AWp_seq_k (fun K hK => ?_); apply s_region; apply s_q; decide; rfl; (simp only [go_sem]; rfl); apply s_nil; simp only [AThen, ABlock]; refine hK _ _ ?_; clear hK K; refine AWp_seq_k (fun K hK => ?_); apply s_region; apply s_q; decide; rfl; (simp only [go_sem]; rfl); apply s_call; decide; (simp only [go_sem]; rfl); (simp only [go_sem]; rfl); apply of_c (fun c => serverB c.toNat) 56 (fun c H K h => serverB_c _ H K h) 32 (by decide); apply s_q; decide; rfl; (simp only [go_sem]; rfl); apply s_nil; simp only [AThen, ABlock]; refine hK _ _ ?_; clear hK K; apply AWp_ret)
  exact h

def hasPre (l p : List UInt8) : Bool := decide (p.length ≤ l.length) && decide (l.take p.length = p)
theorem hasPrefix_c (l p : List UInt8) (H : AHeap) (K : AV → AHeap → Prop) (h : K (.v (.bool (hasPre l p))) H) : ACall X 70 [.s l, .s p] H K := by
  refine ACall_intro Tryd.func70 rfl (by kernel_rfl) (by rw [Tryd.ntmps70]; simp) ?_; rw [Tryd.ntmps70]; simp only [frame0, Nat.reduceAdd]
  (refine AWp_seq_k (fun K hK => ?_); apply s_region; apply s_q; decide; rfl; (simp only [go_sem]; rfl); apply s_nil; simp only [AThen, ABlock]; refine hK _ _ ?_; clear hK K; refine AWp_seq_k (fun K hK => ?_); apply s_region; (iterate 6 (apply s_q; decide; rfl; (simp only [go_sem]; rfl))); (iterate 2 (apply s_spec; decide; rfl; rfl; (simp only [go_sem]; rfl); (simp only [go_sem]; rfl); (simp only [go_sem]; rfl); (simp only [go_sem]; rfl); trivial)); apply s_spec; decide; rfl; rfl; (simp only [go_sem]; rfl); (simp only [go_sem]; rfl); (simp only [go_sem]; rfl); (simp only [go_sem]; rfl); simp [condsOk]; apply s_when; decide; (simp only [go_sem]; rfl); (simp only [go_sem]; rfl); (simp only [go_sem]; rfl); simp [condsOk]; (intro hg; simp only [go_sem]; refine Eq.trans (if_pos ?_) rfl; simp at hg; omega); apply s_spec; decide; rfl; rfl; (simp only [go_sem]; rfl); (simp only [go_sem]; rfl); (simp only [go_sem]; rfl); (simp only [go_sem]; rfl); trivial; apply s_spec; decide; rfl; rfl; (simp only [go_sem]; rfl); (simp only [go_sem]; rfl); (simp only [go_sem]; rfl); (simp only [go_sem]; rfl); simp [condsOk]; apply s_pick; decide; (simp only [go_sem]; rfl); (simp only [go_sem]; rfl); (simp only [go_sem]; rfl); (simp only [go_sem]; rfl); (simp only [go_sem]; rfl); (simp only [go_sem]; rfl); trivial; simp [condsOk]; trivial; apply s_q; decide; rfl; (simp only [go_sem]; rfl); apply s_nil; simp only [AThen, ABlock]; refine hK _ _ ?_; clear hK K; apply AWp_ret)
  refine finB h ?_
  unfold hasPre
  simp only [List.drop_zero, Int.ofNat_le]
  generalize decide (p.length ≤ l.length) = a1, decide (l.take p.length = p) = a2
  revert a1 a2; decide
theorem cutPrefix0_c (l p : List UInt8) (H : AHeap) (K : AV → AHeap → Prop) (h : K (.tup [.s (if hasPre l p then l.drop p.length else l), .v (.bool (hasPre l p))]) H) : ACall X 51 [.s l, .s p] H K := by
  refine ACall_intro Tryd.func51 rfl (by kernel_rfl) (by rw [Tryd.ntmps51]; simp) ?_; rw [Tryd.ntmps51]; simp only [frame0, Nat.reduceAdd]
  (refine AWp_seq_k (fun K hK => ?_); apply s_region; (iterate 2 (apply s_q; decide; rfl; (simp only [go_sem]; rfl))); apply s_nil; simp only [AThen, ABlock]; refine hK _ _ ?_; clear hK K; (iterate 2 (refine AWp_seq_k (fun K hK => ?_))); apply s_region; (iterate 2 (apply s_q; decide; rfl; (simp only [go_sem]; rfl))); apply s_call; decide; (simp only [go_sem]; rfl); (simp only [go_sem]; rfl); apply hasPrefix_c; apply s_q; decide; rfl; (simp only [go_sem]; rfl); apply s_nil; simp only [AThen, ABlock]; refine hK _ _ ?_; clear hK K)
  refine cond_split (by simp only [go_sem]; try rfl) (fun hc => ?_) (fun hc => ?_)
  · (refine AWp_seq_k (fun K hK => ?_); apply s_region; (iterate 3 (apply s_q; decide; rfl; (simp only [go_sem]; rfl))); apply s_nil; simp only [AThen, ABlock]; refine hK _ _ ?_; clear hK K; apply AWp_ret; simp only [AThen, ABlock]; apply end_ret; rfl; simp only [AFr.get, reduceIte, Nat.reduceEqDiff])
    refine fin h ?_
    simp at hc; simp [hc]
  · have hp : hasPre l p = true := by simpa using hc
    have hle : p.length ≤ l.length := by simp [hasPre] at hp; exact hp.1
    (apply AWp_skip; simp only [AThen, ABlock]; refine hK _ _ ?_; clear hK K; refine AWp_seq_k (fun K hK => ?_); apply s_region; (iterate 3 (apply s_q; decide; rfl; (simp only [go_sem]; rfl))); (apply s_q; decide; rfl; (simp only [go_sem]; rw [if_pos ⟨by omega, Nat.le_refl _⟩])); (iterate 2 (apply s_q; decide; rfl; (simp only [go_sem]; rfl))); apply s_nil; simp only [AThen, ABlock]; refine hK _ _ ?_; clear hK K; apply AWp_ret)
    refine fin h ?_
    simp only [AFr.get, reduceIte, Nat.reduceEqDiff, if_pos hp, hp, List.take_length]
theorem cutPrefix_c (l p : List UInt8) (H : AHeap) (K : AV → AHeap → Prop) (h : K (.tup [.s (if hasPre l p then l.drop p.length else l), .v (.bool (hasPre l p))]) H) : ACall X 39 [.s l, .s p] H K := by
  refine ACall_intro Tryd.func39 rfl (by kernel_rfl) (by rw [Tryd.ntmps39]; simp) ?_; rw [Tryd.ntmps39]; simp only [frame0, Nat.reduceAdd]
  (refine AWp_seq_k (fun K hK => ?_); apply s_region; (iterate 2 (apply s_q; decide; rfl; (simp only [go_sem]; rfl))); apply s_nil; simp only [AThen, ABlock]; refine hK _ _ ?_; clear hK K; refine AWp_seq_k (fun K hK => ?_); apply s_region; (iterate 2 (apply s_q; decide; rfl; (simp only [go_sem]; rfl))); apply s_call; decide; (simp only [go_sem]; rfl); (simp only [go_sem]; rfl); apply cutPrefix0_c; (iterate 4 (apply s_q; decide; rfl; (simp only [go_sem]; rfl))); apply s_nil; simp only [AThen, ABlock]; refine hK _ _ ?_; clear hK K; apply AWp_ret)
  exact h
def isType (l : List UInt8) : Bool := ofB (fun c => typeB c.toNat) 64 l
theorem cut_c (l sep : List UInt8) (hl : l.length < 4294967281) (H : AHeap) (K : AV → AHeap → Prop) (h : K (.tup [.s (Lib.cut l sep).1, .s (Lib.cut l sep).2.1, .v (.bool (Lib.cut l sep).2.2)]) H) : ACall X 40 [.s l, .s sep] H K :=
  ACall_same (by kernel_rfl) h fun w φ xs hr hx => by
    obtain ⟨a, b, rfl, rfl, rfl⟩ := vrs_ss hx
    obtain ⟨⟨m, hm, _⟩, _⟩ := hr.env
    exact ⟨_, .tup (.cons (vr_str _) (.cons (vr_str _) (.cons (.v _) .nil))), Any.strings_Cut Tryd.lays145 a b m w (by simpa using hl) hm⟩

/-- 'ident.cut' and 'ident.User' -/
def idCut (sign l : List UInt8) : Option (List UInt8 × List UInt8) :=
  let rest := if hasPre l sign then l.drop sign.length else l
  let c := Lib.cut rest [58]
  if hasPre l sign && c.2.2 && isLocal c.1 && isServer c.2.1 then some (c.1, c.2.1) else none
def idParts (sign l : List UInt8) : AV := match idCut sign l with | some (a, b) => .tup [.s a, .s b, .v (.bool true)] | none => .tup [.s [], .s [], .v (.bool false)]
theorem idcut_c (sign l : List UInt8) (hl : l.length < 4294967281) (H : AHeap) (K : AV → AHeap → Prop)
    (h : K (idParts sign l) H) : ACall X 30 [.s sign, .s l] H K := by
  have hr : (if hasPre l sign then l.drop sign.length else l).length < 4294967281 := by
    split
    · rw [List.length_drop]; omega
    · exact hl
  generalize hc : Lib.cut (if hasPre l sign then l.drop sign.length else l) [58] = c
  obtain ⟨c1, c2, c3⟩ := c
  refine ACall_intro Tryd.func30 rfl (by kernel_rfl) (by rw [Tryd.ntmps30]; simp) ?_; rw [Tryd.ntmps30]; simp only [frame0, Nat.reduceAdd]
  (refine AWp_seq_k (fun K hK => ?_); apply s_region; (iterate 3 (apply s_q; decide; rfl; (simp only [go_sem, hc]; rfl))); apply s_nil; simp only [AThen, ABlock]; refine hK _ _ ?_; clear hK K; refine AWp_seq_k (fun K hK => ?_); apply s_region; (iterate 2 (apply s_q; decide; rfl; (simp only [go_sem, hc]; rfl))); apply s_call; decide; (simp only [go_sem, hc]; rfl); (simp only [go_sem, hc]; rfl); apply cutPrefix_c; (iterate 5 (apply s_q; decide; rfl; (simp only [go_sem, hc]; rfl))); apply s_nil; simp only [AThen, ABlock]; refine hK _ _ ?_; clear hK K; refine AWp_seq_k (fun K hK => ?_); apply s_region; apply s_q; decide; rfl; (simp only [go_sem, hc]; rfl); apply s_call; decide; (simp only [go_sem, hc]; rfl); (simp only [go_sem, hc]; rfl); apply cut_c _ _ hr; (iterate 7 (apply s_q; decide; rfl; (simp only [go_sem, hc]; rfl))); apply s_nil; simp only [AThen, ABlock]; refine hK _ _ ?_; clear hK K; (iterate 2 (refine AWp_seq_k (fun K hK => ?_))); apply s_region; (iterate 3 (apply s_q; decide; rfl; (simp only [go_sem, hc]; rfl))); apply s_spec; decide; rfl; rfl; (simp only [go_sem, hc]; rfl); (simp only [go_sem, hc]; rfl); (simp only [go_sem, hc]; rfl); (simp only [go_sem, hc]; rfl); trivial; apply s_spec; decide; rfl; rfl; (simp only [go_sem, hc]; rfl); (simp only [go_sem, hc]; rfl); (simp only [go_sem, hc]; rfl); (simp only [go_sem, hc]; rfl); simp [condsOk]; apply s_pick; decide; (simp only [go_sem, hc]; rfl); (simp only [go_sem, hc]; rfl); (simp only [go_sem, hc]; rfl); (simp only [go_sem, hc]; rfl); (simp only [go_sem, hc]; rfl); (simp only [go_sem, hc]; rfl); trivial; trivial; simp [condsOk]; apply s_q; decide; rfl; (simp only [go_sem, hc]; rfl); apply s_spec; decide; rfl; rfl; (simp only [go_sem, hc]; rfl); (simp only [go_sem, hc]; rfl); (simp only [go_sem, hc]; rfl); (simp only [go_sem, hc]; rfl); trivial; apply s_gpure; decide; (simp only [go_sem, hc]; rfl); (simp only [go_sem, hc]; rfl); (simp only [go_sem, hc]; rfl); simp [condsOk]; (simp only [go_sem, hc]; rfl); (simp only [go_sem, hc]; rfl); (apply local_c; exact ⟨rfl, rfl⟩); apply s_spec; decide; rfl; rfl; (simp only [go_sem, hc]; rfl); (simp only [go_sem, hc]; rfl); (simp only [go_sem, hc]; rfl); (simp only [go_sem, hc]; rfl); simp [condsOk]; apply s_pick; decide; (simp only [go_sem, hc]; rfl); (simp only [go_sem, hc]; rfl); (simp only [go_sem, hc]; rfl); (simp only [go_sem, hc]; rfl); (simp only [go_sem, hc]; rfl); (simp only [go_sem, hc]; rfl); trivial; trivial; simp [condsOk]; apply s_q; decide; rfl; (simp only [go_sem, hc]; rfl); apply s_spec; decide; rfl; rfl; (simp only [go_sem, hc]; rfl); (simp only [go_sem, hc]; rfl); (simp only [go_sem, hc]; rfl); (simp only [go_sem, hc]; rfl); trivial; apply s_gpure; decide; (simp only [go_sem, hc]; rfl); (simp only [go_sem, hc]; rfl); (simp only [go_sem, hc]; rfl); simp [condsOk]; (simp only [go_sem, hc]; rfl); (simp only [go_sem, hc]; rfl); (apply server_c; exact ⟨rfl, rfl⟩); apply s_spec; decide; rfl; rfl; (simp only [go_sem, hc]; rfl); (simp only [go_sem, hc]; rfl); (simp only [go_sem, hc]; rfl); (simp only [go_sem, hc]; rfl); simp [condsOk]; apply s_pick; decide; (simp only [go_sem, hc]; rfl); (simp only [go_sem, hc]; rfl); (simp only [go_sem, hc]; rfl); (simp only [go_sem, hc]; rfl); (simp only [go_sem, hc]; rfl); (simp only [go_sem, hc]; rfl); trivial; trivial; simp [condsOk]; apply s_nil; simp only [AThen, ABlock]; refine hK _ _ ?_; clear hK K)
  refine cond_split (by simp only [go_sem]; try rfl) (fun hd => ?_) (fun hd => ?_)
  · (refine AWp_seq_k (fun K hK => ?_); apply s_region; (iterate 3 (apply s_q; decide; rfl; (simp only [go_sem]; rfl))); apply s_nil; simp only [AThen, ABlock]; refine hK _ _ ?_; clear hK K; apply AWp_ret; simp only [AThen, ABlock]; apply end_ret; rfl; simp only [AFr.get, reduceIte, Nat.reduceEqDiff])
    have e : idCut sign l = none := by
      unfold idCut
      simp only [hc]
      cases h1 : hasPre l sign <;> cases c3 <;> cases h2 : isLocal c1 <;> cases h3 : isServer c2 <;> simp_all
    unfold idParts at h
    rw [e] at h
    exact h
  · (apply AWp_skip; simp only [AThen, ABlock]; refine hK _ _ ?_; clear hK K; refine AWp_seq_k (fun K hK => ?_); apply s_region; (iterate 5 (apply s_q; decide; rfl; (simp only [go_sem]; rfl))); apply s_nil; simp only [AThen, ABlock]; refine hK _ _ ?_; clear hK K; apply AWp_ret)
    have e : idCut sign l = some (c1, c2) := by
      unfold idCut
      simp only [hc]
      cases h1 : hasPre l sign <;> cases c3 <;> cases h2 : isLocal c1 <;> cases h3 : isServer c2 <;> simp_all
    unfold idParts at h
    rw [e] at h
    exact h
def userOf (l : List UInt8) : Option (List UInt8 × List UInt8) := idCut [64] l
theorem user_c (l : List UInt8) (hl : l.length < 4294967281) (H : AHeap) (K : AV → AHeap → Prop) (h : K (idParts [64] l) H) : ACall X 21 [.s l] H K := by
  obtain ⟨a, b, c, e⟩ : ∃ a b c, idParts [64] l = .tup [.s a, .s b, .v (.bool c)] := by
    unfold idParts; split <;> exact ⟨_, _, _, rfl⟩
  refine ACall_intro Tryd.func21 rfl (by kernel_rfl) (by rw [Tryd.ntmps21]; simp) ?_; rw [Tryd.ntmps21]; simp only [frame0, Nat.reduceAdd]
  (refine AWp_seq_k (fun K hK => ?_); apply s_region; (iterate 3 (apply s_q; decide; rfl; (simp only [go_sem, e]; rfl))); apply s_nil; simp only [AThen, ABlock]; refine hK _ _ ?_; clear hK K; refine AWp_seq_k (fun K hK => ?_); apply s_region; apply s_q; decide; rfl; (simp only [go_sem, e]; rfl); apply s_call; decide; (simp only [go_sem, e]; rfl); (simp only [go_sem, e]; rfl); apply idcut_c _ _ hl; (iterate 6 (apply s_q; decide; rfl; (simp only [go_sem, e]; rfl))); apply s_nil; simp only [AThen, ABlock]; refine hK _ _ ?_; clear hK K; apply AWp_ret)
  rw [e] at h; exact h

end Go.Proofs.YtpdfgmedbphmkaaDoor
