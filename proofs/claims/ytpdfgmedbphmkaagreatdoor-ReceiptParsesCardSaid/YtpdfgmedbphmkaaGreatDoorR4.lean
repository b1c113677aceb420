/-
  The document's names of users, servers, types. Contracts.
-/
import Derived.Test.YtpdfgmedbphmkaaGreatDoorIdent
set_option linter.unusedSimpArgs false
set_option linter.unusedVariables false
set_option maxRecDepth 100000
namespace Go.Proofs.YtpdfgmedbphmkaaGreatDoor
open Go Go.AL
attribute [local irreducible] AOps AWp SOps AE AT ACall AApp

theorem rsmall_c (c : Int) (H : AHeap) (K : AV → AHeap → Prop) (h : K (.v (.bool (smallB c))) H) : ACall X 114 [.v (.int .u8 c)] H K := by
  refine ACall_intro Tryz.func114 rfl (by kernel_rfl) (by rw [Tryz.ntmps114]; simp) ?_; rw [Tryz.ntmps114]; simp only [frame0, Nat.reduceAdd]
  (refine AWp_seq_k (fun K hK => ?_); apply s_region; apply s_q; decide; rfl; (simp only [go_sem]; rfl); apply s_nil; simp only [AThen, ABlock]; refine hK _ _ ?_; clear hK K; refine AWp_seq_k (fun K hK => ?_); apply s_region; (iterate 3 (apply s_q; decide; rfl; (simp only [go_sem]; rfl))); apply s_spec; decide; rfl; rfl; (simp only [go_sem]; rfl); (simp only [go_sem]; rfl); (simp only [go_sem]; rfl); (simp only [go_sem]; rfl); trivial; apply s_spec; decide; rfl; rfl; (simp only [go_sem]; rfl); (simp only [go_sem]; rfl); (simp only [go_sem]; rfl); (simp only [go_sem]; rfl); simp [condsOk]; apply s_pick; decide; (simp only [go_sem]; rfl); (simp only [go_sem]; rfl); (simp only [go_sem]; rfl); (simp only [go_sem]; rfl); (simp only [go_sem]; rfl); (simp only [go_sem]; rfl); trivial; simp [condsOk]; trivial; apply s_q; decide; rfl; (simp only [go_sem]; rfl); apply s_spec; decide; rfl; rfl; (simp only [go_sem]; rfl); (simp only [go_sem]; rfl); (simp only [go_sem]; rfl); (simp only [go_sem]; rfl); trivial; (iterate 2 (apply s_spec; decide; rfl; rfl; (simp only [go_sem]; rfl); (simp only [go_sem]; rfl); (simp only [go_sem]; rfl); (simp only [go_sem]; rfl); simp [condsOk])); apply s_spec; decide; rfl; rfl; (simp only [go_sem]; rfl); (simp only [go_sem]; rfl); (simp only [go_sem]; rfl); (simp only [go_sem]; rfl); trivial; apply s_spec; decide; rfl; rfl; (simp only [go_sem]; rfl); (simp only [go_sem]; rfl); (simp only [go_sem]; rfl); (simp only [go_sem]; rfl); simp [condsOk]; apply s_pickg; decide; (simp only [go_sem]; rfl); (simp only [go_sem]; rfl); (simp only [go_sem]; rfl); (simp only [go_sem]; rfl); (simp only [go_sem]; rfl); (simp only [go_sem]; rfl); (simp only [go_sem]; rfl); (simp only [go_sem]; rfl); simp [condsOk]; simp [condsOk]; trivial; apply s_pick; decide; (simp only [go_sem]; rfl); (simp only [go_sem]; rfl); (simp only [go_sem]; rfl); (simp only [go_sem]; rfl); (simp only [go_sem]; rfl); (simp only [go_sem]; rfl); trivial; trivial; simp [condsOk]; apply s_q; decide; rfl; (simp only [go_sem]; rfl); apply s_spec; decide; rfl; rfl; (simp only [go_sem]; rfl); (simp only [go_sem]; rfl); (simp only [go_sem]; rfl); (simp only [go_sem]; rfl); trivial; apply s_spec; decide; rfl; rfl; (simp only [go_sem]; rfl); (simp only [go_sem]; rfl); (simp only [go_sem]; rfl); (simp only [go_sem]; rfl); simp [condsOk]; apply s_pick; decide; (simp only [go_sem]; rfl); (simp only [go_sem]; rfl); (simp only [go_sem]; rfl); (simp only [go_sem]; rfl); (simp only [go_sem]; rfl); (simp only [go_sem]; rfl); trivial; trivial; simp [condsOk]; apply s_q; decide; rfl; (simp only [go_sem]; rfl); apply s_nil; simp only [AThen, ABlock]; refine hK _ _ ?_; clear hK K; apply AWp_ret)
  refine finB h ?_
  unfold smallB
  generalize decide (97 ≤ c) = a1, decide (c ≤ 122) = a2, decide (48 ≤ c) = a3, decide (c ≤ 57) = a4, decide (c = 46) = a5
  revert a1 a2 a3 a4 a5; decide
set_option maxHeartbeats 1000000 in
theorem rserver4_c (l : List UInt8) (hl : l.length ≤ 4611686018427387904) (H : AHeap) (K : AV → AHeap → Prop) (h : K (.v (.bool (isServer l))) H) : ACall X 100 [.s l] H K := by
  refine ACall_intro Tryz.func100 rfl (by kernel_rfl) (by rw [Tryz.ntmps100]; simp) ?_; rw [Tryz.ntmps100]; simp only [frame0, Nat.reduceAdd]
  (refine AWp_seq_k (fun K hK => ?_); apply s_region; apply s_q; decide; rfl; (simp only [go_sem]; rfl); apply s_nil; simp only [AThen, ABlock]; refine hK _ _ ?_; clear hK K; (iterate 2 (refine AWp_seq_k (fun K hK => ?_))); apply s_region; (iterate 4 (apply s_q; decide; rfl; (simp only [go_sem]; rfl))); apply s_spec; decide; rfl; rfl; (simp only [go_sem]; rfl); (simp only [go_sem]; rfl); (simp only [go_sem]; rfl); (simp only [go_sem]; rfl); trivial; (iterate 2 (apply s_spec; decide; rfl; rfl; (simp only [go_sem]; rfl); (simp only [go_sem]; rfl); (simp only [go_sem]; rfl); (simp only [go_sem]; rfl); simp [condsOk])); apply s_pick; decide; (simp only [go_sem]; rfl); (simp only [go_sem]; rfl); (simp only [go_sem]; rfl); (simp only [go_sem]; rfl); (simp only [go_sem]; rfl); (simp only [go_sem]; rfl); trivial; trivial; simp [condsOk]; apply s_nil; simp only [AThen, ABlock]; refine hK _ _ ?_; clear hK K)
  refine cond_split (by simp only [go_sem]; try rfl) (fun hc => ?_) (fun hc => ?_)
  · (refine AWp_seq_k (fun K hK => ?_); apply s_region; apply s_q; decide; rfl; (simp only [go_sem]; rfl); apply s_nil; simp only [AThen, ABlock]; refine hK _ _ ?_; clear hK K; apply AWp_ret; simp only [AThen, ABlock]; apply end_ret; rfl; simp only [AFr.get, reduceIte, Nat.reduceEqDiff])
    refine finB h ?_
    rw [isServer, ofB]
    by_cases h0 : l = []
    · simp [h0]
    · have : 0 < l.length := List.length_pos_iff.2 h0
      have : ¬ (l.length : Int) ≤ 32 := by simp at hc; omega
      simp [this]
  have hl1 : l ≠ [] := by rintro rfl; simp at hc
  have hl2 : (l.length : Int) ≤ 32 := by simp at hc; omega
  (apply AWp_skip; simp only [AThen, ABlock]; refine hK _ _ ?_; clear hK K; (iterate 2 (refine AWp_seq_k (fun K hK => ?_))); apply s_region; apply s_q; decide; rfl; (simp only [go_sem]; rfl); apply s_nil; simp only [AThen, ABlock]; refine hK _ _ ?_; clear hK K; apply AWp_block)
  refine AWp_loop_s (σ := Nat) [0, 3] (fun i => [.s l, .v (.int .i64 i)]) (fun _ => H) (fun i => l.length - i) (fun i => i ≤ l.length ∧ (l.take i).all (fun c => serverB c.toNat) = true) 0 ⟨Nat.zero_le _, rfl⟩ rfl rfl (fun i hi => ?_)
  simp only [List.zip_cons_cons, List.zip_nil_right]
  ((iterate 2 (refine AWp_seq_k (fun K hK => ?_))); apply s_region; (iterate 4 (apply s_q; decide; rfl; (simp only [go_sem]; rfl))); apply s_nil; simp only [AThen, ABlock]; refine hK _ _ ?_; clear hK K)
  refine cond_split (by simp only [go_sem]; try rfl) (fun hd => ?_) (fun hd => ?_)
  · have hlt : i < l.length := by simpa using hd
    obtain ⟨c, hm⟩ := getc hlt
    (apply AWp_skip; simp only [AThen, ABlock]; refine hK _ _ ?_; clear hK K; refine AWp_seq_k (fun K hK => ?_); apply AWp_block; refine AWp_seq_k (fun K hK => ?_); apply s_region; (iterate 3 (apply s_q; decide; rfl; (simp only [go_sem, hm]; rfl))); apply s_call; decide; (simp only [go_sem, hm]; rfl); (simp only [go_sem, hm]; rfl); apply rsmall_c; (iterate 2 (apply s_q; decide; rfl; (simp only [go_sem, hm]; rfl))); (iterate 2 (apply s_spec; decide; rfl; rfl; (simp only [go_sem, hm]; rfl); (simp only [go_sem, hm]; rfl); (simp only [go_sem, hm]; rfl); (simp only [go_sem, hm]; rfl); trivial)); apply s_when; decide; (simp only [go_sem, hm]; rfl); (simp only [go_sem, hm]; rfl); (simp only [go_sem, hm]; rfl); simp [condsOk]; (intro hg; simp only [go_sem, hm]; try rfl); apply s_spec; decide; rfl; rfl; (simp only [go_sem, hm]; rfl); (simp only [go_sem, hm]; rfl); (simp only [go_sem, hm]; rfl); (simp only [go_sem, hm]; rfl); simp [condsOk]; apply s_pick; decide; (simp only [go_sem, hm]; rfl); (simp only [go_sem, hm]; rfl); (simp only [go_sem, hm]; rfl); (simp only [go_sem, hm]; rfl); (simp only [go_sem, hm]; rfl); (simp only [go_sem, hm]; rfl); trivial; simp [condsOk]; trivial; apply s_nil; simp only [AThen, ABlock]; refine hK _ _ ?_; clear hK K)
    refine cond_split (by simp only [go_sem]; try rfl) (fun hq => ?_) (fun hq => ?_)
    · have hq' : serverB c.toNat = false := by
        unfold serverB; revert hq
        cases smallB (c.toNat : Int) <;> simp
      (refine AWp_seq_k (fun K hK => ?_); apply s_region; apply s_q; decide; rfl; (simp only [go_sem]; rfl); apply s_nil; simp only [AThen, ABlock]; refine hK _ _ ?_; clear hK K; apply AWp_ret; simp only [AThen, ABlock]; apply end_ret; rfl; simp only [AFr.get, reduceIte, Nat.reduceEqDiff])
      refine finB h ?_
      rw [isServer, ofB, not_all hm (by simpa using hq'), Bool.and_false]
    · have hq' : serverB c.toNat = true := by
        unfold serverB; revert hq
        cases smallB (c.toNat : Int) <;> simp <;> omega
      (apply AWp_skip; simp only [AThen, ABlock]; refine hK _ _ ?_; clear hK K; apply s_region; (iterate 3 (apply s_q; decide; rfl; (simp only [go_sem]; rfl))); apply s_nil; simp only [AThen, ABlock])
      refine ⟨i + 1, by omega, ⟨by omega, ?_⟩, ?_, by trivial⟩
      · rw [all_take hm hi.2]; simpa using hq'
      · simp only [getAll, List.map_cons, List.map_nil, AFr.get, reduceIte, Nat.reduceEqDiff]
        rw [wrapS hlt (by omega)]; try rfl
  · have hge : l.length ≤ i := by simpa using hd
    (apply AWp_exit; simp only [AThen, ABlock, reduceIte, Nat.reduceEqDiff]; clear hK K; refine hK _ _ ?_; clear hK K; refine AWp_seq_k (fun K hK => ?_); apply s_region; apply s_q; decide; rfl; (simp only [go_sem]; rfl); apply s_nil; simp only [AThen, ABlock]; refine hK _ _ ?_; clear hK K; apply AWp_ret)
    refine finB h ?_
    have ha : l.all (fun c => serverB c.toNat) = true := by rw [← hi.2, List.take_of_length_le hge]
    rw [isServer, ofB, decide_eq_false hl1, decide_eq_true hl2, ha]; rfl
set_option maxHeartbeats 1000000 in
theorem rlocal4_c (l : List UInt8) (hl : l.length ≤ 4611686018427387904) (H : AHeap) (K : AV → AHeap → Prop) (h : K (.v (.bool (isLocal l))) H) : ACall X 99 [.s l] H K := by
  refine ACall_intro Tryz.func99 rfl (by kernel_rfl) (by rw [Tryz.ntmps99]; simp) ?_; rw [Tryz.ntmps99]; simp only [frame0, Nat.reduceAdd]
  (refine AWp_seq_k (fun K hK => ?_); apply s_region; apply s_q; decide; rfl; (simp only [go_sem]; rfl); apply s_nil; simp only [AThen, ABlock]; refine hK _ _ ?_; clear hK K; (iterate 2 (refine AWp_seq_k (fun K hK => ?_))); apply s_region; (iterate 4 (apply s_q; decide; rfl; (simp only [go_sem]; rfl))); apply s_spec; decide; rfl; rfl; (simp only [go_sem]; rfl); (simp only [go_sem]; rfl); (simp only [go_sem]; rfl); (simp only [go_sem]; rfl); trivial; (iterate 2 (apply s_spec; decide; rfl; rfl; (simp only [go_sem]; rfl); (simp only [go_sem]; rfl); (simp only [go_sem]; rfl); (simp only [go_sem]; rfl); simp [condsOk])); apply s_pick; decide; (simp only [go_sem]; rfl); (simp only [go_sem]; rfl); (simp only [go_sem]; rfl); (simp only [go_sem]; rfl); (simp only [go_sem]; rfl); (simp only [go_sem]; rfl); trivial; trivial; simp [condsOk]; apply s_nil; simp only [AThen, ABlock]; refine hK _ _ ?_; clear hK K)
  refine cond_split (by simp only [go_sem]; try rfl) (fun hc => ?_) (fun hc => ?_)
  · (refine AWp_seq_k (fun K hK => ?_); apply s_region; apply s_q; decide; rfl; (simp only [go_sem]; rfl); apply s_nil; simp only [AThen, ABlock]; refine hK _ _ ?_; clear hK K; apply AWp_ret; simp only [AThen, ABlock]; apply end_ret; rfl; simp only [AFr.get, reduceIte, Nat.reduceEqDiff])
    refine finB h ?_
    rw [isLocal, ofB]
    by_cases h0 : l = []
    · simp [h0]
    · have : 0 < l.length := List.length_pos_iff.2 h0
      have : ¬ (l.length : Int) ≤ 32 := by simp at hc; omega
      simp [this]
  have hl1 : l ≠ [] := by rintro rfl; simp at hc
  have hl2 : (l.length : Int) ≤ 32 := by simp at hc; omega
  (apply AWp_skip; simp only [AThen, ABlock]; refine hK _ _ ?_; clear hK K; (iterate 2 (refine AWp_seq_k (fun K hK => ?_))); apply s_region; apply s_q; decide; rfl; (simp only [go_sem]; rfl); apply s_nil; simp only [AThen, ABlock]; refine hK _ _ ?_; clear hK K; apply AWp_block)
  refine AWp_loop_s (σ := Nat) [0, 3] (fun i => [.s l, .v (.int .i64 i)]) (fun _ => H) (fun i => l.length - i) (fun i => i ≤ l.length ∧ (l.take i).all (fun c => localB c.toNat) = true) 0 ⟨Nat.zero_le _, rfl⟩ rfl rfl (fun i hi => ?_)
  simp only [List.zip_cons_cons, List.zip_nil_right]
  ((iterate 2 (refine AWp_seq_k (fun K hK => ?_))); apply s_region; (iterate 4 (apply s_q; decide; rfl; (simp only [go_sem]; rfl))); apply s_nil; simp only [AThen, ABlock]; refine hK _ _ ?_; clear hK K)
  refine cond_split (by simp only [go_sem]; try rfl) (fun hd => ?_) (fun hd => ?_)
  · have hlt : i < l.length := by simpa using hd
    obtain ⟨c, hm⟩ := getc hlt
    (apply AWp_skip; simp only [AThen, ABlock]; refine hK _ _ ?_; clear hK K; refine AWp_seq_k (fun K hK => ?_); apply AWp_block; refine AWp_seq_k (fun K hK => ?_); apply s_region; (iterate 3 (apply s_q; decide; rfl; (simp only [go_sem, hm]; rfl))); apply s_call; decide; (simp only [go_sem, hm]; rfl); (simp only [go_sem, hm]; rfl); apply rsmall_c; (iterate 2 (apply s_q; decide; rfl; (simp only [go_sem, hm]; rfl))); (iterate 2 (apply s_spec; decide; rfl; rfl; (simp only [go_sem, hm]; rfl); (simp only [go_sem, hm]; rfl); (simp only [go_sem, hm]; rfl); (simp only [go_sem, hm]; rfl); trivial)); apply s_when; decide; (simp only [go_sem, hm]; rfl); (simp only [go_sem, hm]; rfl); (simp only [go_sem, hm]; rfl); simp [condsOk]; (intro hg; simp only [go_sem, hm]; try rfl); apply s_spec; decide; rfl; rfl; (simp only [go_sem, hm]; rfl); (simp only [go_sem, hm]; rfl); (simp only [go_sem, hm]; rfl); (simp only [go_sem, hm]; rfl); simp [condsOk]; apply s_pick; decide; (simp only [go_sem, hm]; rfl); (simp only [go_sem, hm]; rfl); (simp only [go_sem, hm]; rfl); (simp only [go_sem, hm]; rfl); (simp only [go_sem, hm]; rfl); (simp only [go_sem, hm]; rfl); trivial; simp [condsOk]; trivial; apply s_q; decide; rfl; (simp only [go_sem, hm]; rfl); (iterate 2 (apply s_spec; decide; rfl; rfl; (simp only [go_sem, hm]; rfl); (simp only [go_sem, hm]; rfl); (simp only [go_sem, hm]; rfl); (simp only [go_sem, hm]; rfl); trivial)); apply s_when; decide; (simp only [go_sem, hm]; rfl); (simp only [go_sem, hm]; rfl); (simp only [go_sem, hm]; rfl); simp [condsOk]; (intro hg; simp only [go_sem, hm]; try rfl); apply s_spec; decide; rfl; rfl; (simp only [go_sem, hm]; rfl); (simp only [go_sem, hm]; rfl); (simp only [go_sem, hm]; rfl); (simp only [go_sem, hm]; rfl); simp [condsOk]; apply s_pick; decide; (simp only [go_sem, hm]; rfl); (simp only [go_sem, hm]; rfl); (simp only [go_sem, hm]; rfl); (simp only [go_sem, hm]; rfl); (simp only [go_sem, hm]; rfl); (simp only [go_sem, hm]; rfl); trivial; simp [condsOk]; trivial; apply s_nil; simp only [AThen, ABlock]; refine hK _ _ ?_; clear hK K)
    refine cond_split (by simp only [go_sem]; try rfl) (fun hq => ?_) (fun hq => ?_)
    · have hq' : localB c.toNat = false := by
        unfold localB; revert hq
        cases smallB (c.toNat : Int) <;> simp
      (refine AWp_seq_k (fun K hK => ?_); apply s_region; apply s_q; decide; rfl; (simp only [go_sem]; rfl); apply s_nil; simp only [AThen, ABlock]; refine hK _ _ ?_; clear hK K; apply AWp_ret; simp only [AThen, ABlock]; apply end_ret; rfl; simp only [AFr.get, reduceIte, Nat.reduceEqDiff])
      refine finB h ?_
      rw [isLocal, ofB, not_all hm (by simpa using hq'), Bool.and_false]
    · have hq' : localB c.toNat = true := by
        unfold localB; revert hq
        cases smallB (c.toNat : Int) <;> simp <;> omega
      (apply AWp_skip; simp only [AThen, ABlock]; refine hK _ _ ?_; clear hK K; apply s_region; (iterate 3 (apply s_q; decide; rfl; (simp only [go_sem]; rfl))); apply s_nil; simp only [AThen, ABlock])
      refine ⟨i + 1, by omega, ⟨by omega, ?_⟩, ?_, by trivial⟩
      · rw [all_take hm hi.2]; simpa using hq'
      · simp only [getAll, List.map_cons, List.map_nil, AFr.get, reduceIte, Nat.reduceEqDiff]
        rw [wrapS hlt (by omega)]; try rfl
  · have hge : l.length ≤ i := by simpa using hd
    (apply AWp_exit; simp only [AThen, ABlock, reduceIte, Nat.reduceEqDiff]; clear hK K; refine hK _ _ ?_; clear hK K; refine AWp_seq_k (fun K hK => ?_); apply s_region; apply s_q; decide; rfl; (simp only [go_sem]; rfl); apply s_nil; simp only [AThen, ABlock]; refine hK _ _ ?_; clear hK K; apply AWp_ret)
    refine finB h ?_
    have ha : l.all (fun c => localB c.toNat) = true := by rw [← hi.2, List.take_of_length_le hge]
    rw [isLocal, ofB, decide_eq_false hl1, decide_eq_true hl2, ha]; rfl
end Go.Proofs.YtpdfgmedbphmkaaGreatDoor
