/-
  The document's names of users, servers, types. Contracts.
-/
import Derived.Test.YtcpfgjfiacfmoaaGreatDoorLPart6
import Derived.Test.YtcpfgjfiacfmoaaGreatDoorLPart8
import Derived.Test.YtcpfgjfiacfmoaaGreatDoorLAL4
set_option linter.unusedSimpArgs false
set_option linter.unusedVariables false
set_option maxRecDepth 100000
namespace Go.Proofs.YtcpfgjfiacfmoaaGreatDoor
open Go Go.AL
attribute [local irreducible] AOps AWp SOps AE AT ACall AApp

theorem rsmall_c (c : Int) (H : AHeap) (K : AV → AHeap → Prop) (h : K (.v (.bool (smallB c))) H) : ACall X 143 [.v (.int .u8 c)] H K := by
  refine ACall_intro Tryz.func143 rfl (by kernel_rfl) (by rw [Tryz.ntmps143]; simp) ?_; rw [Tryz.ntmps143]; simp only [frame0, Nat.reduceAdd]
  (apply sR; intro K hK; refine qr ?_; refine s_nil (hK _ _ ?_); clear hK K; apply sR; intro K hK; (iterate 3 (refine qr ?_)); refine sp ?_; refine sp ?_; apply s_pick; decide; (iterate 6 (simp only [go_sem]; rfl)); trivial; simp [condsOk]; trivial; refine qr ?_; refine sp ?_; (iterate 2 (refine sp ?_)); refine sp ?_; refine sp ?_; apply s_pickg; decide; (iterate 8 (simp only [go_sem]; rfl)); simp [condsOk]; simp [condsOk]; trivial; apply s_pick; decide; (iterate 6 (simp only [go_sem]; rfl)); trivial; trivial; simp [condsOk]; refine qr ?_; refine sp ?_; refine sp ?_; apply s_pick; decide; (iterate 6 (simp only [go_sem]; rfl)); trivial; trivial; simp [condsOk]; refine qr ?_; refine s_nil (hK _ _ ?_); clear hK K; apply AWp_ret)
  refine finB h ?_
  unfold smallB
  generalize decide (97 ≤ c) = a1, decide (c ≤ 122) = a2, decide (48 ≤ c) = a3, decide (c ≤ 57) = a4, decide (c = 46) = a5
  revert a1 a2 a3 a4 a5; decide
set_option maxHeartbeats 1000000 in
theorem rtype4_c (l : List UInt8) (hl : l.length ≤ 4611686018427387904) (H : AHeap) (K : AV → AHeap → Prop) (h : K (.v (.bool (isType l))) H) : ACall X 109 [.s l] H K := by
  refine ACall_intro Tryz.func109 rfl (by kernel_rfl) (by rw [Tryz.ntmps109]; simp) ?_; rw [Tryz.ntmps109]; simp only [frame0, Nat.reduceAdd]
  (apply sR; intro K hK; refine qr ?_; refine s_nil (hK _ _ ?_); clear hK K; apply sK; intro K hK; apply sR; intro K hK; (iterate 4 (refine qr ?_)); refine sp ?_; (iterate 2 (refine sp ?_)); apply s_pick; decide; (iterate 6 (simp only [go_sem]; rfl)); trivial; trivial; simp [condsOk]; refine s_nil (hK _ _ ?_); clear hK K)
  refine cs (fun hc => ?_) (fun hc => ?_)
  · (apply sR; intro K hK; refine qr ?_; refine s_nil (hK _ _ ?_); clear hK K; apply AWp_ret; simp only [AThen, ABlock]; apply end_ret; rfl; simp only [AFr.get, reduceIte, Nat.reduceEqDiff])
    refine finB h ?_
    rw [isType, ofB]
    by_cases h0 : l = []
    · simp [h0]
    · have : 0 < l.length := List.length_pos_iff.2 h0
      have : ¬ (l.length : Int) ≤ 64 := by simp at hc; omega
      simp [this]
  have hl1 : l ≠ [] := by rintro rfl; simp at hc
  have hl2 : (l.length : Int) ≤ 64 := by simp at hc; omega
  (refine AWp_skip (hK _ _ ?_); clear hK K; apply sK; intro K hK; apply sR; intro K hK; refine qr ?_; refine s_nil (hK _ _ ?_); clear hK K; apply AWp_block)
  refine AWp_loop_s (σ := Nat) [0, 3] (fun i => [.s l, .v (.int .i64 i)]) (fun _ => H) (fun i => l.length - i) (fun i => i ≤ l.length ∧ (l.take i).all (fun c => typeB c.toNat) = true) 0 ⟨Nat.zero_le _, rfl⟩ rfl rfl (fun i hi => ?_)
  simp only [List.zip_cons_cons, List.zip_nil_right]
  (apply sK; intro K hK; apply sR; intro K hK; (iterate 4 (refine qr ?_)); refine s_nil (hK _ _ ?_); clear hK K)
  refine cs (fun hd => ?_) (fun hd => ?_)
  · have hlt : i < l.length := by simpa using hd
    obtain ⟨c, hm⟩ := getc hlt
    (refine AWp_skip (hK _ _ ?_); clear hK K; apply sK; intro K hK; apply AWp_block; apply sR; intro K hK; (iterate 3 (apply s_q; decide; rfl; (simp only [go_sem, hm]; rfl))); apply s_call; decide; (iterate 2 (simp only [go_sem, hm]; rfl)); apply rsmall_c; (iterate 2 (apply s_q; decide; rfl; (simp only [go_sem, hm]; rfl))); (iterate 2 (apply s_spec; decide; rfl; rfl; (iterate 4 (simp only [go_sem, hm]; rfl)); trivial)); apply s_when; decide; (iterate 3 (simp only [go_sem, hm]; rfl)); simp [condsOk]; (intro hg; simp only [go_sem, hm]; try rfl); apply s_spec; decide; rfl; rfl; (iterate 4 (simp only [go_sem, hm]; rfl)); simp [condsOk]; apply s_pick; decide; (iterate 6 (simp only [go_sem, hm]; rfl)); trivial; simp [condsOk]; trivial; refine s_nil (hK _ _ ?_); clear hK K)
    refine cs (fun hq => ?_) (fun hq => ?_)
    · have hq' : typeB c.toNat = false := by
        unfold typeB; revert hq
        cases smallB (c.toNat : Int) <;> simp
      (apply sR; intro K hK; refine qr ?_; refine s_nil (hK _ _ ?_); clear hK K; apply AWp_ret; simp only [AThen, ABlock]; apply end_ret; rfl; simp only [AFr.get, reduceIte, Nat.reduceEqDiff])
      refine finB h ?_
      rw [isType, ofB, not_all hm (by simpa using hq'), Bool.and_false]
    · have hq' : typeB c.toNat = true := by
        unfold typeB; revert hq
        cases smallB (c.toNat : Int) <;> simp <;> omega
      (refine AWp_skip (hK _ _ ?_); clear hK K; apply s_region; (iterate 3 (refine qr ?_)); apply s_nil; simp only [AThen, ABlock])
      refine ⟨i + 1, by omega, ⟨by omega, ?_⟩, ?_, by trivial⟩
      · rw [all_take hm hi.2]; simpa using hq'
      · simp only [getAll, List.map, AFr.get, reduceIte, Nat.reduceEqDiff]
        rw [wrapS hlt (by omega)]; try rfl
  · have hge : l.length ≤ i := by simpa using hd
    (apply AWp_exit; simp only [AThen, ABlock, reduceIte, Nat.reduceEqDiff]; clear hK K; refine hK _ _ ?_; clear hK K; apply sR; intro K hK; refine qr ?_; refine s_nil (hK _ _ ?_); clear hK K; apply AWp_ret)
    refine finB h ?_
    have ha : l.all (fun c => typeB c.toNat) = true := by rw [← hi.2, List.take_of_length_le hge]
    rw [isType, ofB, decide_eq_false hl1, decide_eq_true hl2, ha]; rfl
set_option maxHeartbeats 1000000 in
theorem rserver4_c (l : List UInt8) (hl : l.length ≤ 4611686018427387904) (H : AHeap) (K : AV → AHeap → Prop) (h : K (.v (.bool (isServer l))) H) : ACall X 174 [.s l] H K := by
  refine ACall_intro Tryz.func174 rfl (by kernel_rfl) (by rw [Tryz.ntmps174]; simp) ?_; rw [Tryz.ntmps174]; simp only [frame0, Nat.reduceAdd]
  (apply sR; intro K hK; refine qr ?_; refine s_nil (hK _ _ ?_); clear hK K; apply sK; intro K hK; apply sR; intro K hK; (iterate 4 (refine qr ?_)); refine sp ?_; (iterate 2 (refine sp ?_)); apply s_pick; decide; (iterate 6 (simp only [go_sem]; rfl)); trivial; trivial; simp [condsOk]; refine s_nil (hK _ _ ?_); clear hK K)
  refine cs (fun hc => ?_) (fun hc => ?_)
  · (apply sR; intro K hK; refine qr ?_; refine s_nil (hK _ _ ?_); clear hK K; apply AWp_ret; simp only [AThen, ABlock]; apply end_ret; rfl; simp only [AFr.get, reduceIte, Nat.reduceEqDiff])
    refine finB h ?_
    rw [isServer, ofB]
    by_cases h0 : l = []
    · simp [h0]
    · have : 0 < l.length := List.length_pos_iff.2 h0
      have : ¬ (l.length : Int) ≤ 32 := by simp at hc; omega
      simp [this]
  have hl1 : l ≠ [] := by rintro rfl; simp at hc
  have hl2 : (l.length : Int) ≤ 32 := by simp at hc; omega
  (refine AWp_skip (hK _ _ ?_); clear hK K; apply sK; intro K hK; apply sR; intro K hK; refine qr ?_; refine s_nil (hK _ _ ?_); clear hK K; apply AWp_block)
  refine AWp_loop_s (σ := Nat) [0, 3] (fun i => [.s l, .v (.int .i64 i)]) (fun _ => H) (fun i => l.length - i) (fun i => i ≤ l.length ∧ (l.take i).all (fun c => serverB c.toNat) = true) 0 ⟨Nat.zero_le _, rfl⟩ rfl rfl (fun i hi => ?_)
  simp only [List.zip_cons_cons, List.zip_nil_right]
  (apply sK; intro K hK; apply sR; intro K hK; (iterate 4 (refine qr ?_)); refine s_nil (hK _ _ ?_); clear hK K)
  refine cs (fun hd => ?_) (fun hd => ?_)
  · have hlt : i < l.length := by simpa using hd
    obtain ⟨c, hm⟩ := getc hlt
    (refine AWp_skip (hK _ _ ?_); clear hK K; apply sK; intro K hK; apply AWp_block; apply sR; intro K hK; (iterate 3 (apply s_q; decide; rfl; (simp only [go_sem, hm]; rfl))); apply s_call; decide; (iterate 2 (simp only [go_sem, hm]; rfl)); apply rsmall_c; (iterate 2 (apply s_q; decide; rfl; (simp only [go_sem, hm]; rfl))); (iterate 2 (apply s_spec; decide; rfl; rfl; (iterate 4 (simp only [go_sem, hm]; rfl)); trivial)); apply s_when; decide; (iterate 3 (simp only [go_sem, hm]; rfl)); simp [condsOk]; (intro hg; simp only [go_sem, hm]; try rfl); apply s_spec; decide; rfl; rfl; (iterate 4 (simp only [go_sem, hm]; rfl)); simp [condsOk]; apply s_pick; decide; (iterate 6 (simp only [go_sem, hm]; rfl)); trivial; simp [condsOk]; trivial; refine s_nil (hK _ _ ?_); clear hK K)
    refine cs (fun hq => ?_) (fun hq => ?_)
    · have hq' : serverB c.toNat = false := by
        unfold serverB; revert hq
        cases smallB (c.toNat : Int) <;> simp
      (apply sR; intro K hK; refine qr ?_; refine s_nil (hK _ _ ?_); clear hK K; apply AWp_ret; simp only [AThen, ABlock]; apply end_ret; rfl; simp only [AFr.get, reduceIte, Nat.reduceEqDiff])
      refine finB h ?_
      rw [isServer, ofB, not_all hm (by simpa using hq'), Bool.and_false]
    · have hq' : serverB c.toNat = true := by
        unfold serverB; revert hq
        cases smallB (c.toNat : Int) <;> simp <;> omega
      (refine AWp_skip (hK _ _ ?_); clear hK K; apply s_region; (iterate 3 (refine qr ?_)); apply s_nil; simp only [AThen, ABlock])
      refine ⟨i + 1, by omega, ⟨by omega, ?_⟩, ?_, by trivial⟩
      · rw [all_take hm hi.2]; simpa using hq'
      · simp only [getAll, List.map, AFr.get, reduceIte, Nat.reduceEqDiff]
        rw [wrapS hlt (by omega)]; try rfl
  · have hge : l.length ≤ i := by simpa using hd
    (apply AWp_exit; simp only [AThen, ABlock, reduceIte, Nat.reduceEqDiff]; clear hK K; refine hK _ _ ?_; clear hK K; apply sR; intro K hK; refine qr ?_; refine s_nil (hK _ _ ?_); clear hK K; apply AWp_ret)
    refine finB h ?_
    have ha : l.all (fun c => serverB c.toNat) = true := by rw [← hi.2, List.take_of_length_le hge]
    rw [isServer, ofB, decide_eq_false hl1, decide_eq_true hl2, ha]; rfl
set_option maxHeartbeats 1000000 in
theorem rlocal4_c (l : List UInt8) (hl : l.length ≤ 4611686018427387904) (H : AHeap) (K : AV → AHeap → Prop) (h : K (.v (.bool (isLocal l))) H) : ACall X 173 [.s l] H K := by
  refine ACall_intro Tryz.func173 rfl (by kernel_rfl) (by rw [Tryz.ntmps173]; simp) ?_; rw [Tryz.ntmps173]; simp only [frame0, Nat.reduceAdd]
  (apply sR; intro K hK; refine qr ?_; refine s_nil (hK _ _ ?_); clear hK K; apply sK; intro K hK; apply sR; intro K hK; (iterate 4 (refine qr ?_)); refine sp ?_; (iterate 2 (refine sp ?_)); apply s_pick; decide; (iterate 6 (simp only [go_sem]; rfl)); trivial; trivial; simp [condsOk]; refine s_nil (hK _ _ ?_); clear hK K)
  refine cs (fun hc => ?_) (fun hc => ?_)
  · (apply sR; intro K hK; refine qr ?_; refine s_nil (hK _ _ ?_); clear hK K; apply AWp_ret; simp only [AThen, ABlock]; apply end_ret; rfl; simp only [AFr.get, reduceIte, Nat.reduceEqDiff])
    refine finB h ?_
    rw [isLocal, ofB]
    by_cases h0 : l = []
    · simp [h0]
    · have : 0 < l.length := List.length_pos_iff.2 h0
      have : ¬ (l.length : Int) ≤ 32 := by simp at hc; omega
      simp [this]
  have hl1 : l ≠ [] := by rintro rfl; simp at hc
  have hl2 : (l.length : Int) ≤ 32 := by simp at hc; omega
  (refine AWp_skip (hK _ _ ?_); clear hK K; apply sK; intro K hK; apply sR; intro K hK; refine qr ?_; refine s_nil (hK _ _ ?_); clear hK K; apply AWp_block)
  refine AWp_loop_s (σ := Nat) [0, 3] (fun i => [.s l, .v (.int .i64 i)]) (fun _ => H) (fun i => l.length - i) (fun i => i ≤ l.length ∧ (l.take i).all (fun c => localB c.toNat) = true) 0 ⟨Nat.zero_le _, rfl⟩ rfl rfl (fun i hi => ?_)
  simp only [List.zip_cons_cons, List.zip_nil_right]
  (apply sK; intro K hK; apply sR; intro K hK; (iterate 4 (refine qr ?_)); refine s_nil (hK _ _ ?_); clear hK K)
  refine cs (fun hd => ?_) (fun hd => ?_)
  · have hlt : i < l.length := by simpa using hd
    obtain ⟨c, hm⟩ := getc hlt
    (refine AWp_skip (hK _ _ ?_); clear hK K; apply sK; intro K hK; apply AWp_block; apply sR; intro K hK; (iterate 3 (apply s_q; decide; rfl; (simp only [go_sem, hm]; rfl))); apply s_call; decide; (iterate 2 (simp only [go_sem, hm]; rfl)); apply rsmall_c; (iterate 2 (apply s_q; decide; rfl; (simp only [go_sem, hm]; rfl))); (iterate 2 (apply s_spec; decide; rfl; rfl; (iterate 4 (simp only [go_sem, hm]; rfl)); trivial)); apply s_when; decide; (iterate 3 (simp only [go_sem, hm]; rfl)); simp [condsOk]; (intro hg; simp only [go_sem, hm]; try rfl); apply s_spec; decide; rfl; rfl; (iterate 4 (simp only [go_sem, hm]; rfl)); simp [condsOk]; apply s_pick; decide; (iterate 6 (simp only [go_sem, hm]; rfl)); trivial; simp [condsOk]; trivial; apply s_q; decide; rfl; (simp only [go_sem, hm]; rfl); (iterate 2 (apply s_spec; decide; rfl; rfl; (iterate 4 (simp only [go_sem, hm]; rfl)); trivial)); apply s_when; decide; (iterate 3 (simp only [go_sem, hm]; rfl)); simp [condsOk]; (intro hg; simp only [go_sem, hm]; try rfl); apply s_spec; decide; rfl; rfl; (iterate 4 (simp only [go_sem, hm]; rfl)); simp [condsOk]; apply s_pick; decide; (iterate 6 (simp only [go_sem, hm]; rfl)); trivial; simp [condsOk]; trivial; refine s_nil (hK _ _ ?_); clear hK K)
    refine cs (fun hq => ?_) (fun hq => ?_)
    · have hq' : localB c.toNat = false := by
        unfold localB; revert hq
        cases smallB (c.toNat : Int) <;> simp
      (apply sR; intro K hK; refine qr ?_; refine s_nil (hK _ _ ?_); clear hK K; apply AWp_ret; simp only [AThen, ABlock]; apply end_ret; rfl; simp only [AFr.get, reduceIte, Nat.reduceEqDiff])
      refine finB h ?_
      rw [isLocal, ofB, not_all hm (by simpa using hq'), Bool.and_false]
    · have hq' : localB c.toNat = true := by
        unfold localB; revert hq
        cases smallB (c.toNat : Int) <;> simp <;> omega
      (refine AWp_skip (hK _ _ ?_); clear hK K; apply s_region; (iterate 3 (refine qr ?_)); apply s_nil; simp only [AThen, ABlock])
      refine ⟨i + 1, by omega, ⟨by omega, ?_⟩, ?_, by trivial⟩
      · rw [all_take hm hi.2]; simpa using hq'
      · simp only [getAll, List.map, AFr.get, reduceIte, Nat.reduceEqDiff]
        rw [wrapS hlt (by omega)]; try rfl
  · have hge : l.length ≤ i := by simpa using hd
    (apply AWp_exit; simp only [AThen, ABlock, reduceIte, Nat.reduceEqDiff]; clear hK K; refine hK _ _ ?_; clear hK K; apply sR; intro K hK; refine qr ?_; refine s_nil (hK _ _ ?_); clear hK K; apply AWp_ret)
    refine finB h ?_
    have ha : l.all (fun c => localB c.toNat) = true := by rw [← hi.2, List.take_of_length_le hge]
    rw [isLocal, ofB, decide_eq_false hl1, decide_eq_true hl2, ha]; rfl

theorem occ_one (t : List UInt8) (c : UInt8) (j : Nat) : Lib.occAt t [c] j = decide (t[j]? = some c) := by
  rw [Lib.occAt]
  have h : (t.drop j)[0]? = t[j]? := by rw [List.getElem?_drop, Nat.add_zero]
  cases hd : t.drop j with
  | nil => rw [hd] at h; rw [← h]; simp
  | cons b r =>
    rw [hd] at h
    rw [← h]
    by_cases e : c = b
    · subst e; simp [List.isPrefixOf]
    · simp [List.isPrefixOf, e, Ne.symm e]
theorem cut_found {w : List UInt8} {c : UInt8} {k : Nat} (h1 : w[k]? = some c) (h2 : ∀ j, j < k → w[j]? ≠ some c) : Lib.cut w [c] = (w.take k, w.drop (k + 1), true) := by
  have hk : k ≤ w.length := Nat.le_of_lt (List.getElem?_eq_some_iff.1 h1).1
  have hi : Lib.index w [c] = (k : Int) := Lib.index_first hk (by rw [occ_one]; simpa using h1) (fun j hj => by rw [occ_one]; simpa using h2 j hj)
  rw [Lib.cut, hi, if_pos (by omega)]
  rfl
theorem cut_none {w : List UInt8} {c : UInt8} (h : ∀ j : Nat, w[j]? ≠ some c) : Lib.cut w [c] = (w, [], false) := by
  have hi : Lib.index w [c] = -1 := by
    rcases Lib.index_spec w [c] with ⟨h1, _⟩ | ⟨i, _, _, h3, _⟩
    · exact h1
    · rw [occ_one] at h3; exact absurd (by simpa using h3) (h i)
  rw [Lib.cut, hi, if_neg (by decide)]
theorem idParts_not {l : List UInt8} (h : hasPre l [64] = false) : idParts [64] l = .tup [.s [], .s [], .v (.bool false)] := by
  have : idCut [64] l = none := by unfold idCut; simp [h]
  rw [idParts, this]
theorem idParts_none {w : List UInt8} (h : ∀ j : Nat, w[j]? ≠ some 58) : idParts [64] (64 :: w) = .tup [.s [], .s [], .v (.bool false)] := by
  have h1 : hasPre (64 :: w) [64] = true := by simp [hasPre]
  have : idCut [64] (64 :: w) = none := by unfold idCut; simp [h1, cut_none h]
  rw [idParts, this]
theorem idParts_at {w : List UInt8} {k : Nat} (h1 : w[k]? = some 58) (h2 : ∀ j, j < k → w[j]? ≠ some 58) : idParts [64] (64 :: w) = if (isLocal (w.take k) && isServer (w.drop (k + 1))) = true then .tup [.s (w.take k), .s (w.drop (k + 1)), .v (.bool true)] else .tup [.s [], .s [], .v (.bool false)] := by
  have h3 : hasPre (64 :: w) [64] = true := by simp [hasPre]
  rw [idParts]
  unfold idCut
  simp only [h3, if_true, Bool.true_and, List.length_singleton, List.drop_succ_cons, List.drop_zero, cut_found h1 h2]
  cases isLocal (w.take k) <;> cases isServer (w.drop (k + 1)) <;> rfl
set_option maxHeartbeats 1000000 in
theorem parts_c (l : List UInt8) (hl : l.length ≤ 4611686018427387904) (H : AHeap) (Kc : AV → AHeap → Prop) (h : Kc (idParts [64] l) H) : ACall X 160 [.v (.int .u8 64), .s l] H Kc := by
  refine ACall_intro Tryz.func160 rfl (by kernel_rfl) (by rw [Tryz.ntmps160]; simp) ?_; rw [Tryz.ntmps160]; simp only [frame0, Nat.reduceAdd]
  (apply sR; intro K hK; (iterate 3 (refine qr ?_)); refine s_nil (hK _ _ ?_); clear hK K; apply sK; intro K hK; apply sR; intro K hK; refine qr ?_; refine s_nil (hK _ _ ?_); clear hK K; apply AWp_block)
  cases l with
  | nil =>
    rw [idParts_not (by decide)] at h
    refine AWp_loop_s (σ := Nat) [0, 1, 7] (fun i => [.v (.int .u8 64), .s [], .v (.int .i64 1)]) (fun _ => H) (fun i => 0) (fun i => True) 0 trivial rfl rfl (fun i hi => ?_)
    simp only [List.zip_cons_cons, List.zip_nil_right]
    (apply sK; intro K hK; apply sR; intro K hK; (iterate 5 (refine qr ?_)); refine sp ?_; apply s_when (av := .v (.int .u8 0)); decide; (iterate 3 (simp only [go_sem]; rfl)); trivial; (focus (intro hg; first | (cases hg; done) | (simp at hg; done) | (simp at hg; omega))); (iterate 2 (refine sp ?_)); apply s_pick; decide; (iterate 6 (simp only [go_sem]; rfl)); trivial; trivial; trivial; refine s_nil (hK _ _ ?_); clear hK K)
    refine cs (fun hd => ?_) (fun hd => ?_)
    · simp at hd
    (apply AWp_exit; simp only [AThen, ABlock, reduceIte, Nat.reduceEqDiff]; clear hK K; refine hK _ _ ?_; clear hK K; apply sR; intro K hK; (iterate 3 (refine qr ?_)); refine s_nil (hK _ _ ?_); clear hK K; apply AWp_ret)
    exact h
  | cons b w =>
    by_cases hb : b = 64
    · subst hb
      have hwl : w.length + 1 ≤ 4611686018427387904 := hl
      refine AWp_loop_s (σ := Nat) [0, 1, 7] (fun k => [.v (.int .u8 64), .s (64 :: w), .v (.int .i64 ((k : Int) + 1))]) (fun _ => H) (fun k => w.length - k) (fun k => k ≤ w.length ∧ ∀ j, j < k → w[j]? ≠ some 58) 0 ⟨Nat.zero_le _, fun j hj => by omega⟩ rfl rfl (fun k hk => ?_)
      obtain ⟨hk, hno⟩ := hk
      simp only [List.zip_cons_cons, List.zip_nil_right]
      (apply sK; intro K hK; apply sR; intro K hK; (iterate 5 (refine qr ?_)); refine sp ?_; apply s_when; decide; (iterate 3 (simp only [go_sem]; rfl)); simp [condsOk]; (intro hg; simp only [go_sem]; try rfl); refine sp ?_; refine sp ?_; apply s_pick; decide; (iterate 6 (simp only [go_sem]; rfl)); trivial; simp [condsOk]; trivial; refine s_nil (hK _ _ ?_); clear hK K)
      have hw1 : IntKind.i64.wrap ((k : Int) + 1 + 1) = ((k + 1 : Nat) : Int) + 1 := by rw [wrap64 (by omega)]; omega
      refine cs (fun hd => ?_) (fun hd => ?_)
      · have hlt : k < w.length := by
          by_cases hlt : k < w.length
          · exact hlt
          · simp at hd; omega
        obtain ⟨c, hm⟩ := getc hlt
        have hgi : (64 :: w)[((k : Int) + 1).toNat]? = some c := by
          rw [show ((k : Int) + 1).toNat = k + 1 by omega, List.getElem?_cons_succ]; exact hm
        (refine AWp_skip (hK _ _ ?_); clear hK K; apply sK; intro K hK; apply AWp_block; apply sR; intro K hK; (iterate 4 (apply s_q; decide; rfl; (simp only [go_sem, hgi]; rfl))); refine s_nil (hK _ _ ?_); clear hK K)
        refine cs (fun hq => ?_) (fun hq => ?_)
        · have hc : c = 58 := by
            have : c.toNat = 58 := by simp at hq; omega
            exact UInt8.toNat_inj.1 (by rw [this]; rfl)
          subst hc
          rw [idParts_at hm hno] at h
          have z1 : (0 : Int) ≤ (k : Int) + 1 := by omega
          have z2 : ((k : Int) + 1).toNat = k + 1 := by omega
          have z3 : 1 ≤ k + 1 := by omega
          have z4 : k + 1 ≤ w.length + 1 := by omega
          have z5 : (0 : Int) ≤ ((k + 1 : Nat) : Int) + 1 := by omega
          have z6 : (((k + 1 : Nat) : Int) + 1).toNat = k + 2 := by omega
          have z7 : k + 2 ≤ w.length + 1 := by omega
          have z8 : List.drop (k + 2) (List.take (w.length + 1) (64 :: w)) = w.drop (k + 1) := by rw [List.take_of_length_le (by simp)]; rfl
          (apply sK; intro K hK; apply sR; intro K hK; (iterate 3 (apply s_q; decide; rfl; (simp only [go_sem, hw1, z1, z2, z3, z4, z5, z6, z7, List.length_cons]; rfl))); apply s_call; decide; (iterate 2 (simp only [go_sem, hw1, z1, z2, z3, z4, z5, z6, z7, List.length_cons]; rfl)); apply rlocal4_c _ (by simp; omega); apply s_q; decide; rfl; (simp only [go_sem, hw1, z1, z2, z3, z4, z5, z6, z7, List.length_cons]; rfl); (iterate 2 (apply s_spec; decide; rfl; rfl; (iterate 4 (simp only [go_sem, hw1, z1, z2, z3, z4, z5, z6, z7, List.length_cons]; rfl)); trivial)); apply s_spec; decide; rfl; rfl; (iterate 4 (simp only [go_sem, hw1, z1, z2, z3, z4, z5, z6, z7, List.length_cons]; rfl)); simp [condsOk]; apply s_when; decide; (iterate 3 (simp only [go_sem, hw1, z1, z2, z3, z4, z5, z6, z7, List.length_cons]; rfl)); simp [condsOk]; (intro hg; refine (show _ = some (AV.s (w.drop (k + 1))) from ?_); (focus (simp only [go_sem, z5, z6, z7, List.take_length, List.length_cons, Nat.le_refl]; done))); apply s_gpure; decide; (iterate 3 (simp only [go_sem, hw1, z1, z2, z3, z4, z5, z6, z7, List.length_cons]; rfl)); simp [condsOk]; (iterate 2 (simp only [go_sem, hw1, z1, z2, z3, z4, z5, z6, z7, List.length_cons]; rfl)); (apply rserver4_c _ (by simp; omega); exact ⟨rfl, rfl⟩); apply s_pick; decide; (iterate 6 (simp only [go_sem, hw1, z1, z2, z3, z4, z5, z6, z7, List.length_cons]; rfl)); trivial; simp [condsOk]; trivial; refine s_nil (hK _ _ ?_); clear hK K)
          refine cs (fun hp => ?_) (fun hp => ?_)
          · have hp' : (isLocal (w.take k) && isServer (w.drop (k + 1))) = true := by
              revert hp; cases isLocal (w.take k) <;> cases isServer (w.drop (k + 1)) <;> simp
            rw [if_pos hp'] at h
            (apply sK; intro K hK)
            apply AWp_drawA [0, 1, 2, 3, 4, 5, 6, 7, 8, 9] [] 0 (by exact mixed); kernel_rfl; (iterate 2 (simp only [go_sem]; rfl))
            ((iterate 10 (apply e_q; decide; (simp only [go_sem, hw1, z1, z2, z3, z4, z5, z6, z7, List.take_length, List.length_cons, Nat.le_refl]; rfl))); apply e_nil; refine t_nil (hK _ _ ?_); clear hK K; apply AWp_ret; simp only [AThen, ABlock]; apply end_ret; rfl; simp only [AFr.get, reduceIte, Nat.reduceEqDiff])
            exact h
          · have hp' : ¬ (isLocal (w.take k) && isServer (w.drop (k + 1))) = true := by
              revert hp; cases isLocal (w.take k) <;> cases isServer (w.drop (k + 1)) <;> simp
            rw [if_neg hp'] at h
            (refine AWp_skip (hK _ _ ?_); clear hK K; apply sR; intro K hK; (iterate 3 (refine qr ?_)); refine s_nil (hK _ _ ?_); clear hK K; apply AWp_ret; simp only [AThen, ABlock]; apply end_ret; rfl; simp only [AFr.get, reduceIte, Nat.reduceEqDiff])
            exact h
        · have hc : c ≠ 58 := by rintro rfl; simp at hq
          (refine AWp_skip (hK _ _ ?_); clear hK K; apply s_region; (iterate 3 (apply s_q; decide; rfl; (simp only [go_sem, hw1]; rfl))); apply s_nil; simp only [AThen, ABlock])
          refine ⟨k + 1, by omega, ⟨by omega, fun j hj => ?_⟩, ?_, by trivial⟩
          · rcases Nat.lt_succ_iff_lt_or_eq.1 hj with hj | rfl
            · exact hno j hj
            · rw [hm]; simpa using hc
          · simp only [getAll, List.map_cons, List.map_nil, AFr.get, reduceIte, Nat.reduceEqDiff, hw1]
            try rfl
      have hge : w.length ≤ k := by
        by_cases hlt : k < w.length
        · simp at hd; omega
        · omega
      rw [idParts_none (fun j => by
        by_cases hj : j < k
        · exact hno j hj
        · rw [List.getElem?_eq_none (by omega)]; simp)] at h
      (apply AWp_exit; simp only [AThen, ABlock, reduceIte, Nat.reduceEqDiff]; clear hK K; refine hK _ _ ?_; clear hK K; apply sR; intro K hK; (iterate 3 (refine qr ?_)); refine s_nil (hK _ _ ?_); clear hK K; apply AWp_ret)
      exact h
    · rw [idParts_not (by simp [hasPre, hb])] at h
      refine AWp_loop_s (σ := Nat) [0, 1, 7] (fun i => [.v (.int .u8 64), .s (b :: w), .v (.int .i64 1)]) (fun _ => H) (fun i => 0) (fun i => True) 0 trivial rfl rfl (fun i hi => ?_)
      simp only [List.zip_cons_cons, List.zip_nil_right]
      (apply sK; intro K hK; apply sR; intro K hK; (iterate 5 (refine qr ?_)); refine sp ?_; apply s_when; decide; (iterate 3 (simp only [go_sem]; rfl)); simp [condsOk]; (intro hg; simp only [go_sem]; try rfl); refine sp ?_; refine sp ?_; apply s_pick; decide; (iterate 6 (simp only [go_sem]; rfl)); trivial; simp [condsOk]; trivial; refine s_nil (hK _ _ ?_); clear hK K)
      refine cs (fun hd => ?_) (fun hd => ?_)
      · exfalso
        have : b.toNat = 64 := by
          by_cases hlt : 0 < w.length
          · simp at hd; omega
          · simp at hd; omega
        exact hb (UInt8.toNat_inj.1 (by rw [this]; rfl))
      (apply AWp_exit; simp only [AThen, ABlock, reduceIte, Nat.reduceEqDiff]; clear hK K; refine hK _ _ ?_; clear hK K; apply sR; intro K hK; (iterate 3 (refine qr ?_)); refine s_nil (hK _ _ ?_); clear hK K; apply AWp_ret)
      exact h
theorem ruser4_c (l : List UInt8) (hl : l.length ≤ 4611686018427387904) (H : AHeap) (K : AV → AHeap → Prop) (h : K (idParts [64] l) H) : ACall X 142 [.s l] H K := by
  obtain ⟨a, b, c, e⟩ : ∃ a b c, idParts [64] l = .tup [.s a, .s b, .v (.bool c)] := by
    unfold idParts; split <;> exact ⟨_, _, _, rfl⟩
  refine ACall_intro Tryz.func142 rfl (by kernel_rfl) (by rw [Tryz.ntmps142]; simp) ?_; rw [Tryz.ntmps142]; simp only [frame0, Nat.reduceAdd]
  (apply sR; intro K hK; (iterate 3 (refine qr ?_)); refine s_nil (hK _ _ ?_); clear hK K; apply sR; intro K hK; refine qr ?_; apply s_call; decide; (iterate 2 (simp only [go_sem]; rfl)); apply parts_c _ hl)
  rw [e] at h ⊢
  ((iterate 6 (refine qr ?_)); refine s_nil (hK _ _ ?_); clear hK K; apply AWp_ret)
  exact h
theorem risUser4_c (l : List UInt8) (hl : l.length ≤ 4611686018427387904) (H : AHeap) (K : AV → AHeap → Prop) (h : K (.v (.bool (match idCut [64] l with | some _ => true | none => false))) H) : ACall X 108 [.s l] H K := by
  obtain ⟨a, b, c, e, e2⟩ : ∃ a b c, idParts [64] l = .tup [.s a, .s b, .v (.bool c)] ∧ (match idCut [64] l with | some _ => true | none => false) = c := by
    rw [idParts]
    cases idCut [64] l with
    | none => exact ⟨_, _, _, rfl, rfl⟩
    | some p => exact ⟨_, _, _, rfl, rfl⟩
  rw [e2] at h
  refine ACall_intro Tryz.func108 rfl (by kernel_rfl) (by rw [Tryz.ntmps108]; simp) ?_; rw [Tryz.ntmps108]; simp only [frame0, Nat.reduceAdd]
  (apply sR; intro K hK; refine qr ?_; refine s_nil (hK _ _ ?_); clear hK K; apply sR; intro K hK; refine qr ?_; apply s_call; decide; (iterate 2 (simp only [go_sem]; rfl)); apply ruser4_c _ hl; refine qr ?_)
  rw [e]
  ((iterate 6 (refine qr ?_)); refine s_nil (hK _ _ ?_); clear hK K; apply sR; intro K hK; (iterate 2 (refine qr ?_)); refine s_nil (hK _ _ ?_); clear hK K; apply AWp_ret)
  exact h

theorem rnumber_c (j : J) (H : AHeap) (Kc : AV → AHeap → Prop) (h : Kc (.tup [.v (.int .i64 j.int), .v (.bool (levelB j))]) H) : ACall X 106 [.agg j.cells] H Kc := by
  refine ACall.drop ?_
  rw [J.cells_eq]
  refine ACall_intro Tryz.func106 rfl (by kernel_rfl) (by rw [Tryz.ntmps106]; simp) ?_; rw [Tryz.ntmps106]; simp only [frame0, Nat.reduceAdd]
  apply sR; intro K hK
  apply s_box; decide; exact (by simp only [go_sem]; try rfl); exact (by simp only [go_sem]; try rfl); intro p hp
  ((iterate 2 (refine qr ?_)); refine s_nil (hK _ _ ?_); clear hK K; apply sK; intro K hK)
  generalize hgenq : AHeap.put p _ H = M; obtain ⟨g, hextq⟩ := gen_ex hgenq hp; have hE := hextq; clear hextq hgenq
  apply AWp_drawA [0, 1, 2, 3, 4, 5, 6, 7, 8, 9, 10, 11, 12, 13, 14, 15, 16] [] 0 (by exact mixed); kernel_rfl; (iterate 2 (simp only [go_sem]; rfl))
  ((iterate 6 (apply e_q; decide; (simp only [go_sem, g]; rfl))); apply e_spec; decide; (iterate 4 (simp only [go_sem, g]; rfl)); trivial; (iterate 2 (apply e_spec; decide; (iterate 4 (simp only [go_sem, g]; rfl)); simp [condsOk])); apply e_pick; decide; (iterate 6 (simp only [go_sem, g]; rfl)); trivial; simp [condsOk]; trivial; apply e_q; decide; (simp only [go_sem, g]; rfl); apply e_spec; decide; (iterate 4 (simp only [go_sem, g]; rfl)); trivial; (iterate 2 (apply e_spec; decide; (iterate 4 (simp only [go_sem, g]; rfl)); simp [condsOk])); apply e_pick; decide; (iterate 6 (simp only [go_sem, g]; rfl)); trivial; simp [condsOk]; trivial; (iterate 2 (apply e_q; decide; (simp only [go_sem, g]; rfl))); apply e_nil; refine t_nil (hK _ _ ?_); clear hK K; apply AWp_ret)
  refine end_ret (av := .tup [.v (.int .i64 j.int), .v (.bool (levelB j))]) ?_ ⟨H, hE, h⟩
  show resAV X.P _ _ [.tmp 2, .tmp 3] = _
  simp only [go_sem, levelB]; try rfl
def tellB (o : Option J) : Bool := match o with | none => true | some v => levelB v
theorem told_c (j : J) (hl : j.keys.length ≤ 9223372036854775807 ∧ j.list.length ≤ 9223372036854775807) (key : List UInt8) (n : Int) (H : AHeap) (Kc : AV → AHeap → Prop) (h : Kc (.tup [.v (.int .i64 (numR (jGet j key) n)), .v (.bool (tellB (jGet j key)))]) H) : ACall X 72 [.agg j.cells, .s key, .v (.int .i64 n)] H Kc := by
  refine ACall.drop ?_
  obtain ⟨o, ho⟩ : ∃ o, o = jGet j key := ⟨_, rfl⟩
  have hG : ∀ (H : AHeap) (K : AV → AHeap → Prop), K (getRes o) H → ACall X 66 [.agg j.cells, .s key] H K := fun H K hk => get_c j hl _ H K (by rw [← ho]; exact hk)
  rw [← ho] at h
  clear ho
  rw [J.cells_eq]
  refine ACall_intro Tryz.func72 rfl (by kernel_rfl) (by rw [Tryz.ntmps72]; simp) ?_; rw [Tryz.ntmps72]; simp only [frame0, Nat.reduceAdd]
  apply sR; intro K hK
  apply s_box; decide; exact (by simp only [go_sem]; try rfl); exact (by simp only [go_sem]; try rfl); intro p hp
  ((iterate 2 (refine qr ?_)); refine s_nil (hK _ _ ?_); clear hK K; apply sR; intro K hK; (iterate 2 (refine qr ?_)))
  generalize hgenq : AHeap.put p _ H = M; obtain ⟨g, hextq⟩ := gen_ex hgenq hp; have hE := hextq; clear hextq hgenq
  cases o with
  | none =>
    have hG : ∀ (H : AHeap) (K : AV → AHeap → Prop), K (.tup [.agg (J.mk 0 0 [] [] []).cells, .v (.bool false)]) H → ACall X 66 [.agg j.cells, .s key] H K := hG
    have jz := J.cells_eq (J.mk 0 0 [] [] [])
    (apply s_call; decide; (iterate 2 (simp only [go_sem, g, jz]; rfl)); refine ACall.args_eq (bs := [.agg j.cells, .s key]) ?_ ?_; (focus (rw [J.cells_eq j]; done)); apply hG; (iterate 3 (apply s_q; decide; rfl; (simp only [go_sem, g, jz]; rfl))); apply s_alloc; decide; exact zc_25; intro b hb; apply s_store; (iterate 3 (simp only [go_sem, g, jz]; rfl)); apply s_q; decide; rfl; (simp only [go_sem, g, jz]; rfl); refine s_nil (hK _ _ ?_); clear hK K; apply sK; intro K hK; apply sR; intro K hK; (iterate 2 (apply s_q; decide; rfl; (simp only [go_sem, g, jz]; rfl))); refine s_nil (hK _ _ ?_); clear hK K)
    obtain ⟨q, hnewq⟩ : ∃ q, q = b := ⟨_, rfl⟩; have hq := hb; rw [← hnewq] at hq ⊢; clear hb hnewq; try clear he; clear b
    generalize hgenq : AHeap.put q _ M = M2; obtain ⟨g2, hextq⟩ := gen_ex hgenq hq; have g := hextq _ _ g; have hE := Ext.trans hE hextq; clear hextq hgenq
    refine cs (fun hc => ?_) (fun hc => ?_)
    · (apply sR; intro K hK; (iterate 3 (refine qr ?_)); refine s_nil (hK _ _ ?_); clear hK K; apply AWp_ret; simp only [AThen, ABlock]; apply end_ret; rfl; simp only [AFr.get, reduceIte, Nat.reduceEqDiff])
      exact ⟨H, hE, h⟩
    · simp at hc
  | some v =>
    have hG : ∀ (H : AHeap) (K : AV → AHeap → Prop), K (.tup [.agg v.cells, .v (.bool true)]) H → ACall X 66 [.agg j.cells, .s key] H K := hG
    (apply s_call; decide; (iterate 2 (simp only [go_sem, g, J.cells_eq v]; rfl)); refine ACall.args_eq (bs := [.agg j.cells, .s key]) ?_ ?_; (focus (rw [J.cells_eq j]; done)); apply hG; (iterate 3 (apply s_q; decide; rfl; (simp only [go_sem, g, J.cells_eq v]; rfl))); apply s_alloc; decide; exact zc_25; intro b hb; apply s_store; (iterate 3 (simp only [go_sem, g, J.cells_eq v]; rfl)); apply s_q; decide; rfl; (simp only [go_sem, g, J.cells_eq v]; rfl); refine s_nil (hK _ _ ?_); clear hK K; apply sK; intro K hK; apply sR; intro K hK; (iterate 2 (apply s_q; decide; rfl; (simp only [go_sem, g, J.cells_eq v]; rfl))); refine s_nil (hK _ _ ?_); clear hK K)
    obtain ⟨q, hnewq⟩ : ∃ q, q = b := ⟨_, rfl⟩; have hq := hb; rw [← hnewq] at hq ⊢; clear hb hnewq; try clear he; clear b
    generalize hgenq : AHeap.put q _ M = M2; obtain ⟨g2, hextq⟩ := gen_ex hgenq hq; have g := hextq _ _ g; have hE := Ext.trans hE hextq; clear hextq hgenq
    refine cs (fun hc => ?_) (fun hc => ?_)
    · simp at hc
    · (refine AWp_skip (hK _ _ ?_); clear hK K; apply sR; intro K hK; apply s_q; decide; rfl; (simp only [go_sem, g2]; rfl); apply s_call; decide; (iterate 2 (simp only [go_sem, g2]; rfl)); refine ACall.args_eq (bs := [.agg v.cells]) ?_ ?_; (focus (rw [J.cells_eq v]; done)); apply rnumber_c; (iterate 4 (apply s_q; decide; rfl; (simp only [go_sem, g2]; rfl))); refine s_nil (hK _ _ ?_); clear hK K; apply AWp_ret)
      exact ⟨H, hE, h⟩
def nameOk (p : List UInt8 → Bool) (o : Option J) : Bool := match o with | none => true | some v => decide (v.kind = 5) && (v.keys.zip v.list).all fun x => levelB x.2 && p x.1
theorem snap_tup {e sz : Nat} {K0 L : AHeap} {es : List (List AV)} {a : AV} {c : Bool} (h : RowAt e sz K0 L es a) (hE : Ext K0 L) : Snap X [.tup [a, .v (.bool c)]] L [.tup [.sl false es, .v (.bool c)]] K0 := by
  rcases h with ⟨rfl, rfl⟩ | ⟨b, h1, rfl, h3⟩
  · exact Snap.trans Snap.loosen (Snap.drop hE)
  · have h5 : Snap X [.tup [.row b sz es.length, .v (.bool c)]] L (AV.snaps b sz es [.tup [.row b sz es.length, .v (.bool c)]]) (L.put b (.row e sz true es)) := Snap.row h3
    simp only [AV.snaps, AV.snap] at h5
    rw [if_pos trivial, if_pos ⟨trivial, Nat.le_refl _⟩, List.take_length] at h5
    exact h5.trans (Snap.drop (Ext.over hE h1))
theorem all_takeK {α : Type} {l : List α} {i : Nat} {x : α} {p : α → Bool} (h : (l.take i).all p = true) (hx : l[i]? = some x) (hp : p x = true) : (l.take (i + 1)).all p = true := by
  rw [take_succ hx, List.all_append, h]; simp [hp]
theorem all_false {α : Type} {l : List α} {i : Nat} {x : α} {p : α → Bool} (hx : l[i]? = some x) (hp : p x = false) : l.all p = false := by
  rw [Bool.eq_false_iff]; intro h
  rw [List.all_eq_true.1 h x (List.mem_of_getElem? hx)] at hp; cases hp
set_option maxHeartbeats 4000000 in
theorem rnamed_c (j : J) (hl : j.keys.length ≤ 9223372036854775807 ∧ j.list.length ≤ 9223372036854775807) (key : List UInt8) (user : Bool) (hv : ∀ v, jGet j key = some v → goodB 12 v = true ∧ J.Fit v) (H : AHeap) (Kc : AV → AHeap → Prop)
    (h : Kc (.tup [.sl false ((if nameOk (if user = true then isUserB else isType) ((jGet j key).map J.ord) = true then namesR ((jGet j key).map J.ord) else []).map nmCells), .v (.bool (nameOk (if user = true then isUserB else isType) ((jGet j key).map J.ord)))]) H) : ACall X 73 [.agg j.cells, .s key, .v (.bool user)] H Kc := by
  refine ACall.post ?_
  obtain ⟨o, ho⟩ : ∃ o, o = jGet j key := ⟨_, rfl⟩
  have hG : ∀ (H : AHeap) (K : AV → AHeap → Prop), K (getRes o) H → ACall X 66 [.agg j.cells, .s key] H K := fun H K hk => get_c j hl _ H K (by rw [← ho]; exact hk)
  rw [← ho] at h hv
  clear ho
  rw [J.cells_eq]
  refine ACall_intro Tryz.func73 rfl (by kernel_rfl) (by rw [Tryz.ntmps73]; simp) ?_; rw [Tryz.ntmps73]; simp only [frame0, Nat.reduceAdd]
  apply sR; intro K hK
  apply s_box; decide; exact (by simp only [go_sem]; try rfl); exact (by simp only [go_sem]; try rfl); intro p hp
  ((iterate 2 (refine qr ?_)); refine s_nil (hK _ _ ?_); clear hK K; apply sR; intro K hK; (iterate 2 (refine qr ?_)))
  generalize hgenq : AHeap.put p _ H = M; obtain ⟨g, hextq⟩ := gen_ex hgenq hp; have hE := hextq; clear hextq hgenq
  cases o with
  | none =>
    have hG : ∀ (H : AHeap) (K : AV → AHeap → Prop), K (.tup [.agg (J.mk 0 0 [] [] []).cells, .v (.bool false)]) H → ACall X 66 [.agg j.cells, .s key] H K := hG
    have jz := J.cells_eq (J.mk 0 0 [] [] [])
    (apply s_call; decide; (iterate 2 (simp only [go_sem, g, jz]; rfl)); refine ACall.args_eq (bs := [.agg j.cells, .s key]) ?_ ?_; (focus (rw [J.cells_eq j]; done)); apply hG; (iterate 3 (apply s_q; decide; rfl; (simp only [go_sem, g, jz]; rfl))); apply s_alloc; decide; exact zc_25; intro b hb; apply s_store; (iterate 3 (simp only [go_sem, g, jz]; rfl)); apply s_q; decide; rfl; (simp only [go_sem, g, jz]; rfl); refine s_nil (hK _ _ ?_); clear hK K; apply sK; intro K hK; apply sR; intro K hK; (iterate 2 (apply s_q; decide; rfl; (simp only [go_sem, g, jz]; rfl))); refine s_nil (hK _ _ ?_); clear hK K)
    obtain ⟨q, hnewq⟩ : ∃ q, q = b := ⟨_, rfl⟩; have hq := hb; rw [← hnewq] at hq ⊢; clear hb hnewq; try clear he; clear b
    generalize hgenq : AHeap.put q _ M = M2; obtain ⟨g2, hextq⟩ := gen_ex hgenq hq; have g := hextq _ _ g; have hE := Ext.trans hE hextq; clear hextq hgenq
    refine cs (fun hc => ?_) (fun hc => ?_)
    · (apply sR; intro K hK; (iterate 2 (refine qr ?_)); refine s_nil (hK _ _ ?_); clear hK K; apply AWp_ret; simp only [AThen, ABlock]; apply end_ret; rfl; simp only [AFr.get, reduceIte, Nat.reduceEqDiff])
      exact ⟨_, _, Snap.trans Snap.loosen (Snap.drop hE), h⟩
    · simp at hc
  | some v =>
    obtain ⟨v1, v2⟩ := hv v rfl
    have hG : ∀ (H : AHeap) (K : AV → AHeap → Prop), K (.tup [.agg v.cells, .v (.bool true)]) H → ACall X 66 [.agg j.cells, .s key] H K := hG
    (apply s_call; decide; (iterate 2 (simp only [go_sem, g, J.cells_eq v]; rfl)); refine ACall.args_eq (bs := [.agg j.cells, .s key]) ?_ ?_; (focus (rw [J.cells_eq j]; done)); apply hG; (iterate 3 (apply s_q; decide; rfl; (simp only [go_sem, g, J.cells_eq v]; rfl))); apply s_alloc; decide; exact zc_25; intro b hb; apply s_store; (iterate 3 (simp only [go_sem, g, J.cells_eq v]; rfl)); apply s_q; decide; rfl; (simp only [go_sem, g, J.cells_eq v]; rfl); refine s_nil (hK _ _ ?_); clear hK K; apply sK; intro K hK; apply sR; intro K hK; (iterate 2 (apply s_q; decide; rfl; (simp only [go_sem, g, J.cells_eq v]; rfl))); refine s_nil (hK _ _ ?_); clear hK K)
    obtain ⟨q, hnewq⟩ : ∃ q, q = b := ⟨_, rfl⟩; have hq := hb; rw [← hnewq] at hq ⊢; clear hb hnewq; try clear he; clear b
    have hHq : H.get q = none := none_of_ext hE hq
    generalize hgenq : AHeap.put q _ M = M2; obtain ⟨g2, hextq⟩ := gen_ex hgenq hq; have g := hextq _ _ g; have hE := Ext.trans hE hextq; clear hextq hgenq
    refine cs (fun hc => ?_) (fun hc => ?_)
    · simp at hc
    clear hc
    (refine AWp_skip (hK _ _ ?_); clear hK K; apply sK; intro K hK; apply sR; intro K hK; (iterate 3 (apply s_q; decide; rfl; (simp only [go_sem, g2]; rfl))); refine s_nil (hK _ _ ?_); clear hK K)
    have hko : v.ord.kind = v.kind := by rw [ord_eq]; split <;> simp_all [J.kind]
    refine cs (fun hc => ?_) (fun hc => ?_)
    · have h5 : ¬ v.kind = 5 := by simpa using hc
      have hn : nameOk (if user = true then isUserB else isType) (some v.ord) = false := by simp [nameOk, hko, h5]
      have h : Kc (.tup [.sl false ((if nameOk (if user = true then isUserB else isType) (some v.ord) = true then namesR (some v.ord) else []).map nmCells), .v (.bool (nameOk (if user = true then isUserB else isType) (some v.ord)))]) H := h
      rw [hn] at h
      (apply sR; intro K hK; (iterate 2 (refine qr ?_)); refine s_nil (hK _ _ ?_); clear hK K; apply AWp_ret; simp only [AThen, ABlock]; apply end_ret; rfl; simp only [AFr.get, reduceIte, Nat.reduceEqDiff])
      exact ⟨_, _, Snap.trans Snap.loosen (Snap.drop hE), h⟩
    have h5 : v.kind = 5 := by simpa using hc
    obtain ⟨w, hw⟩ : ∃ w, w = v.ord := ⟨_, rfl⟩
    have h : Kc (.tup [.sl false ((if nameOk (if user = true then isUserB else isType) (some v.ord) = true then namesR (some v.ord) else []).map nmCells), .v (.bool (nameOk (if user = true then isUserB else isType) (some v.ord)))]) H := h
    have hOrd : ∀ (H : AHeap) (K : AV → AHeap → Prop), K (.agg [.v (.int .i64 w.kind), .v (.int .i64 w.int), .s w.text, .sl false (w.keys.map strCells), .sl false (w.list.map J.cells)]) H → ACall X 107 [.agg v.cells] H K := fun H K hk => rOrder_c v v2 (by rw [if_pos v1, ← hw, J.cells_eq]; exact hk)
    have hwl : w.keys.length = w.list.length ∧ w.keys.length ≤ 1000000000 := by
      have f := (fit_eq.1 v2).1
      rw [hw, ord_eq, if_pos h5]
      refine ⟨by simp [J.keys, J.list], ?_⟩
      simp only [J.keys, List.length_map, places_len]; exact f.1
    have hw5 : w.kind = 5 := by rw [hw, hko, h5]
    have hkw : ∀ k ∈ w.keys, k.length ≤ 4611686018427387904 := fun k hk => by
      rw [hw, ord_eq, if_pos h5] at hk
      simp only [J.keys, List.mem_map] at hk
      obtain ⟨i, hi, rfl⟩ := hk
      have hlt := places_lt hi
      rw [List.getD_eq_getElem?_getD, List.getElem?_eq_getElem hlt]
      exact (fit_eq.1 v2).2.2.1 _ (List.getElem_mem hlt)
    rw [← hw] at h
    clear hw hko
    (refine AWp_skip (hK _ _ ?_); clear hK K; apply sR; intro K hK; apply s_q; decide; rfl; (simp only [go_sem, g2]; rfl); apply s_call; decide; (iterate 2 (simp only [go_sem, g2]; rfl)); refine ACall.args_eq (bs := [.agg v.cells]) ?_ ?_; (focus (rw [J.cells_eq v]; done)); apply hOrd; apply s_store; (iterate 3 (simp only [go_sem, g2]; rfl)); refine s_nil (hK _ _ ?_); clear hK K; apply sR; intro K hK; apply s_q; decide; rfl; (simp only [go_sem, g2]; rfl); refine s_nil (hK _ _ ?_); clear hK K; apply sK; intro K hK; apply sR; intro K hK; apply s_q; decide; rfl; (simp only [go_sem, g2]; rfl); refine s_nil (hK _ _ ?_); clear hK K; apply AWp_block)
    have hE3 := hE.over hHq (o := jbox w.kind w.int w.text (.sl false (w.keys.map strCells)) (.sl false (w.list.map J.cells)))
    have g3 := AHeap.get_put_same q (jbox w.kind w.int w.text (.sl false (w.keys.map strCells)) (.sl false (w.list.map J.cells))) M2
    generalize AHeap.put q (jbox w.kind w.int w.text (.sl false (w.keys.map strCells)) (.sl false (w.list.map J.cells))) M2 = M3 at hE3 g3 ⊢
    obtain ⟨pr, hpr⟩ : ∃ pr, pr = (if user = true then isUserB else isType) := ⟨_, rfl⟩
    rw [← hpr] at h
    obtain ⟨z, hz⟩ : ∃ z, z = w.keys.zip w.list := ⟨_, rfl⟩
    have hzl : z.length = w.keys.length := by rw [hz, List.length_zip]; omega
    obtain ⟨okp, hokp⟩ : ∃ okp : List UInt8 × J → Bool, okp = fun x => levelB x.2 && pr x.1 := ⟨_, rfl⟩
    have hnok : nameOk pr (some w) = z.all okp := by rw [hz, hokp]; simp [nameOk, hw5]
    have hnr : namesR (some w) = namesL z := by rw [hz]; rfl
    rw [hnok, hnr] at h
    clear hE g2
    refine AWp_loop_s (σ := Nat × AV × AHeap) [2, 8, 10, 11] (fun s => [.v (.bool user), ptrTo q, s.2.1, .v (.int .i64 ((s.1 : Nat) : Int))]) (fun s => s.2.2) (fun s => w.keys.length - s.1)
      (fun s => s.1 ≤ w.keys.length ∧ s.2.2.get q = some (jbox w.kind w.int w.text (.sl false (w.keys.map strCells)) (.sl false (w.list.map J.cells))) ∧ Ext H s.2.2 ∧ RowAt 98 2 H s.2.2 ((namesL (z.take s.1)).map nmCells) s.2.1 ∧ (z.take s.1).all okp = true)
      (0, .sl true [], M3) ⟨Nat.zero_le _, g3, hE3, RowAt.nil _ _ _ _, by simp⟩ rfl rfl (fun s hs => ?_)
    obtain ⟨n, a, L⟩ := s
    obtain ⟨hn, hqL, hE, hR, hall⟩ := hs
    clear g3 hE3
    simp only [List.zip_cons_cons, List.zip_nil_right] at hn hqL hE hR hall ⊢
    (apply sK; intro K hK; apply sR; intro K hK; (iterate 5 (apply s_q; decide; rfl; (simp only [go_sem, hqL]; rfl))); refine s_nil (hK _ _ ?_); clear hK K)
    refine cs (fun hd => ?_) (fun hd => ?_)
    · have hlt : n < w.keys.length := by simpa using hd
      obtain ⟨ky, hky⟩ := gete hlt
      have hgk := jstr_at hky
      obtain ⟨x, hx⟩ := gete (l := w.list) (i := n) (by omega)
      have hgx := jget_at hx
      have hzn : z[n]? = some (ky, x) := by rw [hz, List.getElem?_zip_eq_some]; exact ⟨hky, hx⟩
      have hkyl := hkw ky (List.mem_of_getElem? hky)
      have e1 : namesL (z.take (n + 1)) = namesL (z.take n) ++ [(ky, x.int)] := by rw [take_succ hzn, namesL, List.map_append]; rfl
      have hul : (namesL (z.take n)).length ≤ 1000000000 := by rw [namesL, List.length_map, List.length_take]; omega
      have hU : ∀ (H : AHeap) (K : AV → AHeap → Prop), K (.v (.bool (isUserB ky))) H → ACall X 108 [.s ky] H K := fun H K hk => risUser4_c ky hkyl H K hk
      have hTy : ∀ (H : AHeap) (K : AV → AHeap → Prop), K (.v (.bool (isType ky))) H → ACall X 109 [.s ky] H K := fun H K hk => rtype4_c ky hkyl H K hk
      refine AWp_skip (hK _ _ ?_); clear hK K
      apply sK; intro K hK
      apply AWp_block
      apply sR; intro K hK
      ((iterate 5 (apply s_q; decide; rfl; (simp only [go_sem, hqL, hgx]; rfl))); apply s_call; decide; (iterate 2 (simp only [go_sem, hqL, hgx]; rfl)); refine ACall.args_eq (bs := [.agg x.cells]) ?_ ?_; (focus (rw [J.cells_eq x]; done)); apply rnumber_c x; (iterate 5 (apply s_q; decide; rfl; (simp only [go_sem, hqL, hgx]; rfl))))
      refine s_nil (hK _ _ ?_); clear hK K
      refine AWp_seq_k (fun K0 hK0 => ?_)
      have hgo : ∀ fr, getAll [2, 8, 10, 11, 12, 13] fr = [.v (.bool user), ptrTo q, a, .v (.int .i64 ((n : Nat) : Int)), .v (.int .i64 x.int), .v (.bool (if levelB x = true then pr ky else false))] → K0 fr L := fun fr hfr => by
        refine hK0 _ _ (AWp_cut _ hfr ?_)
        simp only [List.zip_cons_cons, List.zip_nil_right]
        clear hK0
        (apply sK; intro K hK; apply sR; intro K hK; (iterate 2 (refine qr ?_)); refine s_nil (hK _ _ ?_); clear hK K)
        refine cs (fun hf => ?_) (fun hf => ?_)
        · have hbad : z.all okp = false := all_false hzn (by rw [hokp]; cases hx : levelB x <;> simp [hx] at hf ⊢; exact hf)
          rw [hbad] at h
          (apply sR; intro K hK; (iterate 2 (refine qr ?_)); refine s_nil (hK _ _ ?_); clear hK K; apply AWp_ret; simp only [AThen, ABlock]; apply end_ret; rfl; simp only [AFr.get, reduceIte, Nat.reduceEqDiff])
          exact ⟨_, _, Snap.trans Snap.loosen (Snap.drop hE), h⟩
        · have hgood : okp (ky, x) = true := by rw [hokp]; cases hx : levelB x <;> simp [hx] at hf ⊢; exact hf
          (refine AWp_skip (hK _ _ ?_); clear hK K; apply s_region; (iterate 8 (apply s_q; decide; rfl; (simp only [go_sem, hqL, hgk]; rfl))); apply s_lit; decide; exact el_56; (iterate 2 (simp only [go_sem, hqL, hgk]; rfl)); decide; apply s_append; decide; (iterate 2 (simp only [go_sem, hqL, hgk]; rfl)); apply AApp_at el_56 hE hR (l := namesL (z.take n)) (m := [(ky, x.int)]) (g := nmCells) rfl rfl tk_56 nm_one (by simp; omega) (by simp; omega); intro s2 L3 r1 r2 r3; apply s_q; decide; rfl; (simp only [go_sem, hqL, hgk]; rfl); refine s_nil (hK _ _ ?_); clear hK K; apply s_region; (iterate 3 (apply s_q; decide; rfl; (simp only [go_sem, hqL, hgk]; rfl))); apply s_nil; simp only [AThen, ABlock])
          refine ⟨(n + 1, s2, L3), by simp only; omega, ⟨by simp only; omega, r3 q _ hqL (fun _ _ _ h => by cases h), r2, by simp only [e1]; exact r1, all_takeK hall hzn hgood⟩, ?_, by trivial⟩
          simp only [getAll, List.map, AFr.get, reduceIte, Nat.reduceEqDiff]
          rw [wrapS hlt (by omega)]; try rfl
      clear hK0
      (apply sR; intro K hK; refine qr ?_; refine s_nil (hK _ _ ?_); clear hK K)
      refine cs (fun hu => ?_) (fun hu => ?_)
      · subst hu
        rw [if_pos rfl] at hpr
        subst hpr
        (apply s_region; (iterate 2 (apply s_q; decide; rfl; (simp only [go_sem, hqL]; rfl))); apply s_spec; decide; rfl; rfl; (iterate 4 (simp only [go_sem, hqL]; rfl)); trivial; apply s_spec; decide; rfl; rfl; (iterate 4 (simp only [go_sem, hqL]; rfl)); simp [condsOk]; apply s_spec; decide; rfl; rfl; (iterate 4 (simp only [go_sem, hqL]; rfl)); trivial; apply s_when; decide; (iterate 3 (simp only [go_sem, hqL]; rfl)); simp [condsOk]; (intro hg; simp only [go_sem, hqL, hgk]; try rfl); apply s_spec; decide; rfl; rfl; (iterate 4 (simp only [go_sem, hqL]; rfl)); simp [condsOk]; apply s_gpure; decide; (iterate 3 (simp only [go_sem, hqL]; rfl)); simp [condsOk]; (iterate 2 (simp only [go_sem, hqL]; rfl)); (apply hU; exact ⟨rfl, rfl⟩); apply s_pick; decide; (iterate 6 (simp only [go_sem, hqL]; rfl)); trivial; simp [condsOk]; trivial; apply s_q; decide; rfl; (simp only [go_sem, hqL]; rfl); apply s_nil; simp only [AThen, ABlock])
        exact hgo _ rfl
      · subst hu
        rw [if_neg (by decide)] at hpr
        subst hpr
        (apply s_region; (iterate 2 (apply s_q; decide; rfl; (simp only [go_sem, hqL]; rfl))); apply s_spec; decide; rfl; rfl; (iterate 4 (simp only [go_sem, hqL]; rfl)); trivial; apply s_spec; decide; rfl; rfl; (iterate 4 (simp only [go_sem, hqL]; rfl)); simp [condsOk]; apply s_spec; decide; rfl; rfl; (iterate 4 (simp only [go_sem, hqL]; rfl)); trivial; apply s_when; decide; (iterate 3 (simp only [go_sem, hqL]; rfl)); simp [condsOk]; (intro hg; simp only [go_sem, hqL, hgk]; try rfl); apply s_spec; decide; rfl; rfl; (iterate 4 (simp only [go_sem, hqL]; rfl)); simp [condsOk]; apply s_gpure; decide; (iterate 3 (simp only [go_sem, hqL]; rfl)); simp [condsOk]; (iterate 2 (simp only [go_sem, hqL]; rfl)); (apply hTy; exact ⟨rfl, rfl⟩); apply s_pick; decide; (iterate 6 (simp only [go_sem, hqL]; rfl)); trivial; simp [condsOk]; trivial; apply s_q; decide; rfl; (simp only [go_sem, hqL]; rfl); apply s_nil; simp only [AThen, ABlock])
        exact hgo _ rfl
    · have hge : z.length ≤ n := by simp at hd; omega
      rw [List.take_of_length_le hge] at hall hR
      rw [hall] at h
      (apply AWp_exit; simp only [AThen, ABlock, reduceIte, Nat.reduceEqDiff]; clear hK K; refine hK _ _ ?_; clear hK K; apply sR; intro K hK; (iterate 3 (refine qr ?_)); refine s_nil (hK _ _ ?_); clear hK K; apply AWp_ret)
      exact ⟨_, _, snap_tup hR hE, h⟩
theorem numB_eq (o : Option J) (b : Bool) : numB o b = (b || !tellB o) := by
  cases o with
  | none => simp [numB, tellB]
  | some v => cases b <;> simp [numB, tellB]
theorem namesB_eq (p : List UInt8 → Bool) : ∀ (l : List (List UInt8 × J)) (b : Bool), namesB p b l = (b || !(l.all fun x => levelB x.2 && p x.1))
  | [], b => by simp [namesB]
  | x :: l, b => by
    show namesB p (if (if b = true then true else !levelB x.2) = true then true else !p x.1) l = _
    rw [namesB_eq p l, List.all_cons]
    generalize (l.all fun x => levelB x.2 && p x.1) = c
    generalize levelB x.2 = d
    generalize p x.1 = e
    revert b c d e
    decide
theorem namesBad_eq (p : List UInt8 → Bool) (o : Option J) (b : Bool) : namesBad p o b = (b || !nameOk p o) := by
  cases o with
  | none => simp [namesBad, nameOk]
  | some v =>
    show namesB p (if b = true then true else !decide (v.kind = 5)) (v.keys.zip v.list) = (b || !(decide (v.kind = 5) && _))
    rw [namesB_eq]
    generalize (v.keys.zip v.list).all (fun x => levelB x.2 && p x.1) = c
    generalize decide (v.kind = 5) = d
    revert b c d
    decide
theorem ord_kind (v : J) : v.ord.kind = v.kind := by
  rw [ord_eq]; split
  · rename_i h; rw [h]; rfl
  · rfl
theorem ord_int (v : J) : v.ord.int = v.int := by
  rw [ord_eq]; split <;> rfl
theorem tellB_ord (o : Option J) : tellB (o.map J.ord) = tellB o := by
  cases o with
  | none => rfl
  | some v => simp only [Option.map_some, tellB, levelB, ord_kind, ord_int]
theorem numR_ord (o : Option J) (n : Int) : numR (o.map J.ord) n = numR o n := by
  cases o with
  | none => rfl
  | some v => simp only [Option.map_some, numR, ord_int]
def docOk (j : J) : Bool := tellB (jGet j ([98, 97, 110] : List UInt8)) && tellB (jGet j ([107, 105, 99, 107] : List UInt8)) && tellB (jGet j ([105, 110, 118, 105, 116, 101] : List UInt8)) && tellB (jGet j ([114, 101, 100, 97, 99, 116] : List UInt8)) &&
  tellB (jGet j ([115, 116, 97, 116, 101, 95, 100, 101, 102, 97, 117, 108, 116] : List UInt8)) && tellB (jGet j ([101, 118, 101, 110, 116, 115, 95, 100, 101, 102, 97, 117, 108, 116] : List UInt8)) && tellB (jGet j ([117, 115, 101, 114, 115, 95, 100, 101, 102, 97, 117, 108, 116] : List UInt8)) &&
  nameOk isUserB ((jGet j ([117, 115, 101, 114, 115] : List UInt8)).map J.ord) && nameOk isType ((jGet j ([101, 118, 101, 110, 116, 115] : List UInt8)).map J.ord)
def docLv (j : J) : Lv := ⟨numR (jGet j ([98, 97, 110] : List UInt8)) 50, numR (jGet j ([107, 105, 99, 107] : List UInt8)) 50, numR (jGet j ([105, 110, 118, 105, 116, 101] : List UInt8)) 0, numR (jGet j ([114, 101, 100, 97, 99, 116] : List UInt8)) 50,
  numR (jGet j ([115, 116, 97, 116, 101, 95, 100, 101, 102, 97, 117, 108, 116] : List UInt8)) 50, numR (jGet j ([101, 118, 101, 110, 116, 115, 95, 100, 101, 102, 97, 117, 108, 116] : List UInt8)) 0, numR (jGet j ([117, 115, 101, 114, 115, 95, 100, 101, 102, 97, 117, 108, 116] : List UInt8)) 0,
  namesR ((jGet j ([117, 115, 101, 114, 115] : List UInt8)).map J.ord), namesR ((jGet j ([101, 118, 101, 110, 116, 115] : List UInt8)).map J.ord)⟩
theorem lvParse_doc {c : J} (h5 : c.kind = 5) (hg : goodB 12 c = true) : lvParse c = if docOk c = true then some (docLv c) else none := by
  rw [lvParse_look h5 hg]
  unfold lvOf
  simp only [numB_eq, namesBad_eq, tellB_ord, numR_ord]
  unfold docOk docLv
  generalize tellB (jGet c ([98, 97, 110] : List UInt8)) = t1
  generalize tellB (jGet c ([107, 105, 99, 107] : List UInt8)) = t2
  generalize tellB (jGet c ([105, 110, 118, 105, 116, 101] : List UInt8)) = t3
  generalize tellB (jGet c ([114, 101, 100, 97, 99, 116] : List UInt8)) = t4
  generalize tellB (jGet c ([115, 116, 97, 116, 101, 95, 100, 101, 102, 97, 117, 108, 116] : List UInt8)) = t5
  generalize tellB (jGet c ([101, 118, 101, 110, 116, 115, 95, 100, 101, 102, 97, 117, 108, 116] : List UInt8)) = t6
  generalize tellB (jGet c ([117, 115, 101, 114, 115, 95, 100, 101, 102, 97, 117, 108, 116] : List UInt8)) = t7
  generalize nameOk isUserB ((jGet c ([117, 115, 101, 114, 115] : List UInt8)).map J.ord) = t8
  generalize nameOk isType ((jGet c ([101, 118, 101, 110, 116, 115] : List UInt8)).map J.ord) = t9
  have e : (false || !t1 || !t2 || !t3 || !t4 || !t5 || !t6 || !t7 || !t8 || !t9) = !(t1 && t2 && t3 && t4 && t5 && t6 && t7 && t8 && t9) := by revert t1 t2 t3 t4 t5 t6 t7 t8 t9; decide
  rw [e]
  cases (t1 && t2 && t3 && t4 && t5 && t6 && t7 && t8 && t9) <;> rfl
theorem jGet_mem {j v : J} {k : List UInt8} (h : jGet j k = some v) : v ∈ j.list := by
  rw [jGet] at h
  split at h
  · rw [Option.map_eq_some_iff] at h
    obtain ⟨p, hp, rfl⟩ := h
    exact (List.of_mem_zip (List.mem_of_find?_eq_some hp)).2
  · cases h
theorem good_mono : ∀ {n : Nat} {j : J}, goodB n j = true → goodB (n + 1) j = true := fun {n} => by
  induction n with
  | zero => intro j h; cases h
  | succ n ih =>
    intro j h
    rw [goodB] at h ⊢
    simp only [Bool.and_eq_true, List.all_eq_true] at h ⊢
    exact ⟨h.1, fun x hx => ih (h.2 x hx)⟩
set_option maxHeartbeats 4000000 in
theorem rparse_c (j : J) (hf : J.Fit j) (H : AHeap) (Kc : AV → AHeap → Prop) (h : Kc (lvRes (lvParse j)) H) : ACall X 40 [.agg j.cells] H Kc := by
  refine ACall.post ?_
  have hcl : j.keys.length ≤ 9223372036854775807 ∧ j.list.length ≤ 9223372036854775807 := by have := (fit_eq.1 hf).1; omega
  rw [J.cells_eq]
  refine ACall_intro Tryz.func40 rfl (by kernel_rfl) (by rw [Tryz.ntmps40]; simp) ?_; rw [Tryz.ntmps40]; simp only [frame0, Nat.reduceAdd]
  apply sR; intro K hK
  apply s_box; decide; exact (by simp only [go_sem]; try rfl); exact (by simp only [go_sem]; try rfl); intro p hp
  apply s_alloc; decide; exact zc_levels; intro r hr
  (refine qr ?_; refine s_nil (hK _ _ ?_); clear hK K; apply sK; intro K hK; apply sR; intro K hK; refine qr ?_)
  generalize hgenq : AHeap.put p _ H = M1 at hr ⊢; obtain ⟨g1, hextq⟩ := gen_ex hgenq hp; have hE := hextq; clear hextq hgenq
  have hHr : H.get r = none := none_of_ext hE hr
  generalize hgenq : AHeap.put r _ M1 = M; obtain ⟨g2, hextq⟩ := gen_ex hgenq hr; have g1 := hextq _ _ g1; have hE := Ext.trans hE hextq; clear hextq hgenq
  ((iterate 3 (apply s_q; decide; rfl; (simp only [go_sem, g1]; rfl))); apply s_spec; decide; rfl; rfl; (iterate 4 (simp only [go_sem, g1]; rfl)); trivial; apply s_gpure; decide; (iterate 3 (simp only [go_sem, g1]; rfl)); simp [condsOk]; (iterate 2 (simp only [go_sem, g1]; rfl)); (refine ACall.args_eq (bs := [.agg j.cells]) ?_ ?_; (focus (rw [J.cells_eq j]; done)); apply rGood_c j _ _ hf; exact ⟨rfl, rfl⟩); apply s_spec; decide; rfl; rfl; (iterate 4 (simp only [go_sem, g1]; rfl)); simp [condsOk]; apply s_pick; decide; (iterate 6 (simp only [go_sem, g1]; rfl)); trivial; trivial; simp [condsOk]; refine s_nil (hK _ _ ?_); clear hK K)
  refine cs (fun hc => ?_) (fun hc => ?_)
  · have hn : lvParse j = none := by
      rw [lvParse]
      by_cases h5 : j.kind = 5
      · rw [if_pos h5, if_neg (by simpa [h5] using hc)]
      · rw [if_neg h5]
    rw [hn] at h
    (apply sR; intro K hK; apply s_q; decide; rfl; (simp only [go_sem, zc_levels, g2]; rfl); apply s_store; (iterate 3 (simp only [go_sem, zc_levels, g2]; rfl)); apply s_q; decide; rfl; (simp only [go_sem, zc_levels, g2]; rfl); refine s_nil (hK _ _ ?_); clear hK K; apply AWp_ret)
    try simp only [AThen, ABlock]
    refine end_ret (av := .tup [.agg [.v (.int .i64 0), .v (.int .i64 0), .v (.int .i64 0), .v (.int .i64 0), .v (.int .i64 0), .v (.int .i64 0), .v (.int .i64 0), .sl true [], .sl true []], .v (.int .i64 1)]) (by show resAV X.P _ _ [.cell 2 58, .tmp 3] = _; simp only [go_sem]; try rfl) ⟨_, _, Snap.trans Snap.loosen (Snap.drop (hE.over hHr)), h⟩
  have hc' : j.kind = 5 ∧ goodB 12 j = true := by
    by_cases h5 : j.kind = 5
    · refine ⟨h5, ?_⟩; simpa [h5] using hc
    · simp [h5] at hc
  obtain ⟨h5, hg⟩ := hc'
  rw [lvParse_doc h5 hg] at h
  have hv : ∀ k v, jGet j k = some v → goodB 12 v = true ∧ J.Fit v := fun k v hkv => by
    have hm := jGet_mem hkv
    refine ⟨?_, (fit_eq.1 hf).2.2.2 v hm⟩
    rw [goodB] at hg
    simp only [Bool.and_eq_true, List.all_eq_true] at hg
    exact good_mono (hg.2 v hm)
  refine AWp_skip (hK _ _ ?_); clear hK K
  apply sR; intro K hK
  apply s_alloc; decide; exact zc_levels; intro l hl
  refine s_nil (hK _ _ ?_); clear hK K
  have hpl := get_ne_fresh g1 hl
  have hrl := get_ne_fresh g2 hl
  have hHl : H.get l = none := none_of_ext hE hl
  generalize hgenq : AHeap.put l _ M = M2; obtain ⟨g3, hextq⟩ := gen_ex hgenq hl; have g1 := hextq _ _ g1; have g2 := hextq _ _ g2; have hE := Ext.trans hE hextq; clear hextq hgenq
  have g1l : ∀ x, (M2.put l x).get p = some (jbox j.kind j.int j.text (.sl false (j.keys.map strCells)) (.sl false (j.list.map J.cells))) := fun x => get_other g1 hpl
  have hT : ∀ (key : List UInt8) (n : Int) (H : AHeap) (K : AV → AHeap → Prop), K (.tup [.v (.int .i64 (numR (jGet j key) n)), .v (.bool (tellB (jGet j key)))]) H → ACall X 72 [.agg [.v (.int .i64 j.kind), .v (.int .i64 j.int), .s j.text, .sl false (j.keys.map strCells), .sl false (j.list.map J.cells)], .s key, .v (.int .i64 n)] H K := fun key n H K hk => by
    rw [← J.cells_eq]; exact told_c j hcl key n H K hk
  have hN : ∀ (key : List UInt8) (user : Bool) (H : AHeap) (K : AV → AHeap → Prop), K (.tup [.sl false ((if nameOk (if user = true then isUserB else isType) ((jGet j key).map J.ord) = true then namesR ((jGet j key).map J.ord) else []).map nmCells), .v (.bool (nameOk (if user = true then isUserB else isType) ((jGet j key).map J.ord)))]) H →
      ACall X 73 [.agg [.v (.int .i64 j.kind), .v (.int .i64 j.int), .s j.text, .sl false (j.keys.map strCells), .sl false (j.list.map J.cells)], .s key, .v (.bool user)] H K := fun key user H K hk => by
    rw [← J.cells_eq]; exact rnamed_c j hcl key user (hv key) H K hk
  (apply sR; intro K hK; (iterate 9 (apply s_q; decide; rfl; (simp only [go_sem, g1, g3, g1l]; rfl))); refine s_nil (hK _ _ ?_); clear hK K; apply sR; intro K hK; apply s_q; decide; rfl; (simp only [go_sem, g1, g3, g1l]; rfl); apply s_call; decide; (iterate 2 (simp only [go_sem, g1, g3, g1l]; rfl)); apply hT; (iterate 4 (apply s_q; decide; rfl; (simp only [go_sem, g1, g3, g1l]; rfl))); apply s_store; (iterate 3 (simp only [go_sem, g1, g3, g1l]; rfl)); apply s_q; decide; rfl; (simp only [go_sem, g1, g3, g1l]; rfl); refine s_nil (hK _ _ ?_); clear hK K; apply sR; intro K hK; apply s_q; decide; rfl; (simp only [go_sem, g1, g3, g1l]; rfl); apply s_call; decide; (iterate 2 (simp only [go_sem, g1, g3, g1l]; rfl)); apply hT; (iterate 4 (apply s_q; decide; rfl; (simp only [go_sem, g1, g3, g1l]; rfl))); apply s_store; (iterate 3 (simp only [go_sem, g1, g3, g1l]; rfl)); apply s_q; decide; rfl; (simp only [go_sem, g1, g3, g1l]; rfl); refine s_nil (hK _ _ ?_); clear hK K; apply sR; intro K hK; apply s_q; decide; rfl; (simp only [go_sem, g1, g3, g1l]; rfl); apply s_call; decide; (iterate 2 (simp only [go_sem, g1, g3, g1l]; rfl)); apply hT; (iterate 4 (apply s_q; decide; rfl; (simp only [go_sem, g1, g3, g1l]; rfl))); apply s_store; (iterate 3 (simp only [go_sem, g1, g3, g1l]; rfl)); apply s_q; decide; rfl; (simp only [go_sem, g1, g3, g1l]; rfl); refine s_nil (hK _ _ ?_); clear hK K; apply sR; intro K hK; apply s_q; decide; rfl; (simp only [go_sem, g1, g3, g1l]; rfl); apply s_call; decide; (iterate 2 (simp only [go_sem, g1, g3, g1l]; rfl)); apply hT; (iterate 4 (apply s_q; decide; rfl; (simp only [go_sem, g1, g3, g1l]; rfl))); apply s_store; (iterate 3 (simp only [go_sem, g1, g3, g1l]; rfl)); apply s_q; decide; rfl; (simp only [go_sem, g1, g3, g1l]; rfl); refine s_nil (hK _ _ ?_); clear hK K; apply sR; intro K hK; apply s_q; decide; rfl; (simp only [go_sem, g1, g3, g1l]; rfl); apply s_call; decide; (iterate 2 (simp only [go_sem, g1, g3, g1l]; rfl)); apply hT; (iterate 4 (apply s_q; decide; rfl; (simp only [go_sem, g1, g3, g1l]; rfl))); apply s_store; (iterate 3 (simp only [go_sem, g1, g3, g1l]; rfl)); apply s_q; decide; rfl; (simp only [go_sem, g1, g3, g1l]; rfl); refine s_nil (hK _ _ ?_); clear hK K; apply sR; intro K hK; apply s_q; decide; rfl; (simp only [go_sem, g1, g3, g1l]; rfl); apply s_call; decide; (iterate 2 (simp only [go_sem, g1, g3, g1l]; rfl)); apply hT; (iterate 4 (apply s_q; decide; rfl; (simp only [go_sem, g1, g3, g1l]; rfl))); apply s_store; (iterate 3 (simp only [go_sem, g1, g3, g1l]; rfl)); apply s_q; decide; rfl; (simp only [go_sem, g1, g3, g1l]; rfl); refine s_nil (hK _ _ ?_); clear hK K; apply sR; intro K hK; apply s_q; decide; rfl; (simp only [go_sem, g1, g3, g1l]; rfl); apply s_call; decide; (iterate 2 (simp only [go_sem, g1, g3, g1l]; rfl)); apply hT; (iterate 4 (apply s_q; decide; rfl; (simp only [go_sem, g1, g3, g1l]; rfl))); apply s_store; (iterate 3 (simp only [go_sem, g1, g3, g1l]; rfl)); apply s_q; decide; rfl; (simp only [go_sem, g1, g3, g1l]; rfl); refine s_nil (hK _ _ ?_); clear hK K; apply sR; intro K hK; apply s_q; decide; rfl; (simp only [go_sem, g1, g3, g1l]; rfl); apply s_call; decide; (iterate 2 (simp only [go_sem, g1, g3, g1l]; rfl)); apply hN; (iterate 4 (apply s_q; decide; rfl; (simp only [go_sem, g1, g3, g1l]; rfl))); apply s_store; (iterate 3 (simp only [go_sem, g1, g3, g1l]; rfl)); apply s_q; decide; rfl; (simp only [go_sem, g1, g3, g1l]; rfl); refine s_nil (hK _ _ ?_); clear hK K; apply sR; intro K hK; apply s_q; decide; rfl; (simp only [go_sem, g1, g3, g1l]; rfl); apply s_call; decide; (iterate 2 (simp only [go_sem, g1, g3, g1l]; rfl)); apply hN; (iterate 4 (apply s_q; decide; rfl; (simp only [go_sem, g1, g3, g1l]; rfl))); apply s_store; (iterate 3 (simp only [go_sem, g1, g3, g1l]; rfl)); apply s_q; decide; rfl; (simp only [go_sem, g1, g3, g1l]; rfl); refine s_nil (hK _ _ ?_); clear hK K; apply sK; intro K hK; apply sR; intro K hK; (iterate 3 (apply s_q; decide; rfl; (simp only [go_sem, g1, g3, g1l]; rfl))); apply s_spec; decide; rfl; rfl; (iterate 4 (simp only [go_sem, g1, g3, g1l]; rfl)); trivial; apply s_spec; decide; rfl; rfl; (iterate 4 (simp only [go_sem, g1, g3, g1l]; rfl)); simp [condsOk]; apply s_pick; decide; (iterate 6 (simp only [go_sem, g1, g3, g1l]; rfl)); trivial; trivial; simp [condsOk]; apply s_q; decide; rfl; (simp only [go_sem, g1, g3, g1l]; rfl); apply s_spec; decide; rfl; rfl; (iterate 4 (simp only [go_sem, g1, g3, g1l]; rfl)); trivial; apply s_spec; decide; rfl; rfl; (iterate 4 (simp only [go_sem, g1, g3, g1l]; rfl)); simp [condsOk]; apply s_pick; decide; (iterate 6 (simp only [go_sem, g1, g3, g1l]; rfl)); trivial; trivial; simp [condsOk]; apply s_q; decide; rfl; (simp only [go_sem, g1, g3, g1l]; rfl); apply s_spec; decide; rfl; rfl; (iterate 4 (simp only [go_sem, g1, g3, g1l]; rfl)); trivial; apply s_spec; decide; rfl; rfl; (iterate 4 (simp only [go_sem, g1, g3, g1l]; rfl)); simp [condsOk]; apply s_pick; decide; (iterate 6 (simp only [go_sem, g1, g3, g1l]; rfl)); trivial; trivial; simp [condsOk]; apply s_q; decide; rfl; (simp only [go_sem, g1, g3, g1l]; rfl); apply s_spec; decide; rfl; rfl; (iterate 4 (simp only [go_sem, g1, g3, g1l]; rfl)); trivial; apply s_spec; decide; rfl; rfl; (iterate 4 (simp only [go_sem, g1, g3, g1l]; rfl)); simp [condsOk]; apply s_pick; decide; (iterate 6 (simp only [go_sem, g1, g3, g1l]; rfl)); trivial; trivial; simp [condsOk]; apply s_q; decide; rfl; (simp only [go_sem, g1, g3, g1l]; rfl); apply s_spec; decide; rfl; rfl; (iterate 4 (simp only [go_sem, g1, g3, g1l]; rfl)); trivial; apply s_spec; decide; rfl; rfl; (iterate 4 (simp only [go_sem, g1, g3, g1l]; rfl)); simp [condsOk]; apply s_pick; decide; (iterate 6 (simp only [go_sem, g1, g3, g1l]; rfl)); trivial; trivial; simp [condsOk]; apply s_q; decide; rfl; (simp only [go_sem, g1, g3, g1l]; rfl); apply s_spec; decide; rfl; rfl; (iterate 4 (simp only [go_sem, g1, g3, g1l]; rfl)); trivial; apply s_spec; decide; rfl; rfl; (iterate 4 (simp only [go_sem, g1, g3, g1l]; rfl)); simp [condsOk]; apply s_pick; decide; (iterate 6 (simp only [go_sem, g1, g3, g1l]; rfl)); trivial; trivial; simp [condsOk]; apply s_q; decide; rfl; (simp only [go_sem, g1, g3, g1l]; rfl); apply s_spec; decide; rfl; rfl; (iterate 4 (simp only [go_sem, g1, g3, g1l]; rfl)); trivial; apply s_spec; decide; rfl; rfl; (iterate 4 (simp only [go_sem, g1, g3, g1l]; rfl)); simp [condsOk]; apply s_pick; decide; (iterate 6 (simp only [go_sem, g1, g3, g1l]; rfl)); trivial; trivial; simp [condsOk]; apply s_q; decide; rfl; (simp only [go_sem, g1, g3, g1l]; rfl); apply s_spec; decide; rfl; rfl; (iterate 4 (simp only [go_sem, g1, g3, g1l]; rfl)); trivial; apply s_spec; decide; rfl; rfl; (iterate 4 (simp only [go_sem, g1, g3, g1l]; rfl)); simp [condsOk]; apply s_pick; decide; (iterate 6 (simp only [go_sem, g1, g3, g1l]; rfl)); trivial; trivial; simp [condsOk]; refine s_nil (hK _ _ ?_); clear hK K)
  have e9 : ∀ b1 b2 b3 b4 b5 b6 b7 b8 b9 : Bool, (if (if (if (if (if (if (if (if (!b1) = true then true else !b2) = true then true else !b3) = true then true else !b4) = true then true else !b5) = true then true else !b6) = true then true else !b7) = true then true else !b8) = true then true else !b9) = !(b1 && b2 && b3 && b4 && b5 && b6 && b7 && b8 && b9) := by decide
  have g2l : ∀ x, (M2.put l x).get r = some lvz := fun x => get_other g2 hrl
  refine cs (fun hd => ?_) (fun hd => ?_)
  · have hd := (e9 _ _ _ _ _ _ _ _ _).symm.trans hd
    have hb : docOk j = false := by
      have : (!docOk j) = true := hd
      simpa using this
    rw [hb] at h
    (apply sR; intro K hK; apply s_q; decide; rfl; (simp only [go_sem, zc_levels, g2l]; rfl); apply s_store; (iterate 3 (simp only [go_sem, zc_levels, g2l]; rfl)); apply s_q; decide; rfl; (simp only [go_sem, zc_levels, g2l]; rfl); refine s_nil (hK _ _ ?_); clear hK K; apply AWp_ret)
    try simp only [AThen, ABlock]
    refine end_ret (av := .tup [.agg [.v (.int .i64 0), .v (.int .i64 0), .v (.int .i64 0), .v (.int .i64 0), .v (.int .i64 0), .v (.int .i64 0), .v (.int .i64 0), .sl true [], .sl true []], .v (.int .i64 1)]) (by show resAV X.P _ _ [.cell 2 58, .tmp 3] = _; simp only [go_sem]; try rfl) ⟨_, _, Snap.trans Snap.loosen (Snap.drop ((hE.over hHl).over hHr)), h⟩
  · have hd := (e9 _ _ _ _ _ _ _ _ _).symm.trans hd
    have hb : docOk j = true := by
      have : (!docOk j) = false := hd
      simpa using this
    rw [if_pos hb] at h
    have n9 : nameOk isType ((jGet j ([101, 118, 101, 110, 116, 115] : List UInt8)).map J.ord) = true := by
      rw [docOk] at hb; simp only [Bool.and_eq_true] at hb; exact hb.2
    have n8 : nameOk isUserB ((jGet j ([117, 115, 101, 114, 115] : List UInt8)).map J.ord) = true := by
      rw [docOk] at hb; simp only [Bool.and_eq_true] at hb; exact hb.1.2
    (refine AWp_skip (hK _ _ ?_); clear hK K; apply sR; intro K hK; apply s_q; decide; rfl; (simp only [go_sem, g2l]; rfl); apply s_store; (iterate 3 (simp only [go_sem, g2l]; rfl)); apply s_q; decide; rfl; (simp only [go_sem, g2l]; rfl); refine s_nil (hK _ _ ?_); clear hK K; apply AWp_ret)
    try simp only [AThen, ABlock]
    refine end_ret (by show resAV X.P _ _ [.cell 2 58, .tmp 3] = _; simp only [go_sem]; try rfl) ⟨_, _, Snap.drop ((hE.over hHl).over hHr), ?_⟩
    simp only [reduceIte, Bool.false_eq_true, n8, n9]
    exact h

abbrev lvcells (ban kick inv red st ev us : Int) (u t : AV) : List AV := [.v (.int .i64 ban), .v (.int .i64 kick), .v (.int .i64 inv), .v (.int .i64 red), .v (.int .i64 st), .v (.int .i64 ev), .v (.int .i64 us), u, t]
abbrev stCells (s : List UInt8) : List AV := lvcells 50 50 0 50 0 0 0 (.sl false [[.s s, .v (.int .i64 100)]]) (.sl false [])
theorem start_c (s : List UInt8) (H : AHeap) (K : AV → AHeap → Prop) (h : K (.agg (stCells s)) H) : ACall X 70 [.s s] H K := by
  refine ACall.drop (ACall.loose ?_)
  refine ACall_intro Tryz.func70 rfl (by kernel_rfl) (by rw [Tryz.ntmps70]; simp) ?_; rw [Tryz.ntmps70]; simp only [frame0, Nat.reduceAdd]
  (apply sR; intro K hK; apply s_alloc; decide; exact zc_58; intro b hb; refine s_nil (hK _ _ ?_); clear hK K; apply sR; intro K hK; (iterate 2 (apply s_q; decide; rfl; (simp only [go_sem, zc_levels]; rfl))); apply s_lit; decide; exact el_56; (iterate 2 (simp only [go_sem, zc_levels]; rfl)); decide; apply s_q; decide; rfl; (simp only [go_sem, zc_levels]; rfl); apply s_store; (iterate 3 (simp only [go_sem, zc_levels]; rfl)); refine s_nil (hK _ _ ?_); clear hK K; apply AWp_ret)
  refine end_ret (av := .agg (lvcells 50 50 0 50 0 0 0 (.sl true [[.s s, .v (.int .i64 100)]]) (.sl true []))) (by show resAV X.P _ _ [.cell 2 58] = _; simp only [go_sem]; try rfl) ⟨H, Ext.fresh (by assumption), ?_⟩
  exact h
theorem rstart_c (s : List UInt8) (H : AHeap) (K : AV → AHeap → Prop) (h : K (.agg (stCells s)) H) : ACall X 42 [.s s] H K := by
  refine ACall.drop (ACall.loose ?_)
  refine ACall_intro Tryz.func42 rfl (by kernel_rfl) (by rw [Tryz.ntmps42]; simp) ?_; rw [Tryz.ntmps42]; simp only [frame0, Nat.reduceAdd]
  (apply sR; intro K hK; apply s_alloc; decide; exact zc_58; intro b hb; refine s_nil (hK _ _ ?_); clear hK K; apply sR; intro K hK; (iterate 2 (apply s_q; decide; rfl; (simp only [go_sem, zc_levels]; rfl))); apply s_lit; decide; exact el_56; (iterate 2 (simp only [go_sem, zc_levels]; rfl)); decide; apply s_q; decide; rfl; (simp only [go_sem, zc_levels]; rfl); apply s_store; (iterate 3 (simp only [go_sem, zc_levels]; rfl)); refine s_nil (hK _ _ ?_); clear hK K; apply AWp_ret)
  refine end_ret (av := .agg (lvcells 50 50 0 50 0 0 0 (.sl true [[.s s, .v (.int .i64 100)]]) (.sl true []))) (by show resAV X.P _ _ [.cell 2 58] = _; simp only [go_sem]; try rfl) ⟨H, Ext.fresh (by assumption), ?_⟩
  exact h
theorem parse_some {c : J} {L : Lv} (h : lvParse c = some L) : c.kind = 5 ∧ goodB 12 c = true := by
  unfold lvParse at h
  split at h
  · rename_i h5
    split at h
    · rename_i hg; exact ⟨h5, hg⟩
    · cases h
  · cases h
theorem names_len {j : J} (hf : J.Fit j) (k : List UInt8) : (namesR ((jGet j k).map J.ord)).length ≤ 1000000000 := by
  cases ho : jGet j k with
  | none => simp [namesR]
  | some v =>
    have hv := (fit_eq.1 ((fit_eq.1 hf).2.2.2 v (jGet_mem ho))).1
    have hl : v.ord.keys.length ≤ 1000000000 := by
      rw [ord_eq]; split
      · simp only [J.keys, List.length_map, places_len]; exact hv.1
      · simp [J.keys]
    simp only [Option.map_some, namesR, namesL, List.length_map, List.length_zip]
    omega
theorem parse_len {j : J} (hf : J.Fit j) {l : Lv} (h : lvParse j = some l) : l.Len := by
  obtain ⟨h5, hg⟩ := parse_some h
  rw [lvParse_doc h5 hg] at h
  split at h
  · cases h
    exact ⟨names_len hf _, names_len hf _⟩
  · cases h
theorem lvRes_eq (o : Option Lv) : ∃ (l : Lv) (e : Int), lvRes o = .tup [.agg l.cells, .v (.int .i64 e)] ∧ (e = 0 → o = some l) ∧ (¬ e = 0 → o = none ∧ l = lv0) := by
  cases o with
  | none => exact ⟨lv0, 1, rfl, (fun h => by omega), fun _ => ⟨rfl, rfl⟩⟩
  | some l => exact ⟨l, 0, rfl, fun _ => rfl, fun h => absurd rfl h⟩
theorem start_len (s : List UInt8) : (lvStart s).Len := by simp [lvStart, Lv.Len]
def levN (p : Pa) (i : Nat) : Int := if 0 ≤ leanI p i tPower then (match lvParse (evAt p (leanI p i tPower)).content with | none => 0 | some l => l.user (evAt p i).sender) else if 0 ≤ leanI p i tCreate then (lvStart (evAt p (leanI p i tCreate)).sender).user (evAt p i).sender else 0
def levA (p : Pa) (i : Int) : Int := if (rightB p && inR p.events.length i) = true then levN p i.toNat else 0
abbrev paCells (p : Pa) : List AV := [.sl false (p.names.map strCells), .sl false (p.events.map Ev.cells), .sl false (p.prev.map rowCells), .sl false (p.auth.map rowCells), .sl false (p.denied.map bolCells)]
abbrev jCells (j : J) : List AV := [.v (.int .i64 j.kind), .v (.int .i64 j.int), .s j.text, .sl false (j.keys.map strCells), .sl false (j.list.map J.cells)]
theorem ev_of {p : Pa} {i : Nat} {e : Ev} (h : p.events[i]? = some e) : evAt p i = e := by rw [evAt, Int.toNat_natCast]; exact getD_some h
set_option maxHeartbeats 4000000 in
theorem lev_c (p : Pa) (hw : p.Wide) (hr : p.Right) (hsm : ∀ e ∈ p.events, Sml e.content) (i : Nat) (hi : i < p.events.length) (H : AHeap) (K : AV → AHeap → Prop) (h : K (.v (.int .i64 (levN p i))) H) : ACall X 38 [.agg p.cells, .v (.int .i64 i)] H K := by
  have w2 := hw.ev
  obtain ⟨e, he⟩ := gete hi
  have hge := ev_at he
  have hev := ev_of he
  rw [levN, hev] at h
  have hF : ∀ (kind : List UInt8) (H : AHeap) (K : AV → AHeap → Prop), K (.v (.int .i64 (leanI p i kind))) H → ACall X 67 [.agg (paCells p), .v (.int .i64 i), .s kind] H K := fun kind H K hK => first_c p hw hr i hi kind H K hK
  refine ACall.drop ?_
  rw [Pa.cells]
  refine ACall_intro Tryz.func38 rfl (by kernel_rfl) (by rw [Tryz.ntmps38]; simp) ?_; rw [Tryz.ntmps38]; simp only [frame0, Nat.reduceAdd]
  apply sR; intro K hK
  apply s_box; decide; exact (by simp only [go_sem]; try rfl); exact (by simp only [go_sem]; try rfl); intro q hq
  generalize hgenq : AHeap.put q _ H = M; obtain ⟨g1, hextq⟩ := gen_ex hgenq hq; have hE := hextq; clear hextq hgenq
  (apply s_q; decide; rfl; (simp only [go_sem, g1, hge]; rfl); refine s_nil (hK _ _ ?_); clear hK K; apply sR; intro K hK; (iterate 7 (apply s_q; decide; rfl; (simp only [go_sem, g1, hge]; rfl))); refine s_nil (hK _ _ ?_); clear hK K; apply sK; intro K hK; apply sR; intro K hK; (iterate 2 (apply s_q; decide; rfl; (simp only [go_sem, g1, hge]; rfl))); apply s_call; decide; (iterate 2 (simp only [go_sem, g1, hge]; rfl)); apply hF tPower; apply s_q; decide; rfl; (simp only [go_sem, g1, hge]; rfl); refine s_nil (hK _ _ ?_); clear hK K; apply sR; intro K hK; (iterate 2 (apply s_q; decide; rfl; (simp only [go_sem, g1, hge]; rfl))); refine s_nil (hK _ _ ?_); clear hK K)
  rcases leanI_lt hr (i := i) (kind := tPower) with e1 | ⟨n, e1, hn, _⟩
  · rw [e1] at h ⊢
    rw [if_neg (by decide)] at h
    refine cs (fun hc => ?_) (fun hc => ?_)
    · cases hc
    (refine AWp_skip (hK _ _ ?_); clear hK K; apply sK; intro K hK; apply sR; intro K hK; (iterate 2 (apply s_q; decide; rfl; (simp only [go_sem, g1]; rfl))); apply s_call; decide; (iterate 2 (simp only [go_sem, g1]; rfl)); apply hF tCreate; apply s_q; decide; rfl; (simp only [go_sem, g1]; rfl); refine s_nil (hK _ _ ?_); clear hK K; apply sR; intro K hK; (iterate 2 (apply s_q; decide; rfl; (simp only [go_sem, g1]; rfl))); refine s_nil (hK _ _ ?_); clear hK K)
    rcases leanI_lt hr (i := i) (kind := tCreate) with e2 | ⟨m, e2, hm, _⟩
    · rw [e2] at h ⊢
      rw [if_neg (by decide)] at h
      refine cs (fun hc => ?_) (fun hc => ?_)
      · cases hc
      (refine AWp_skip (hK _ _ ?_); clear hK K; apply sR; intro K hK; refine qr ?_; refine s_nil (hK _ _ ?_); clear hK K; apply AWp_ret)
      exact ⟨H, hE, h⟩
    · rw [e2] at h ⊢
      rw [if_pos (by omega)] at h
      obtain ⟨c, hcm⟩ := gete (l := p.events) (i := m) (by omega)
      have hgc := ev_at hcm
      rw [ev_of hcm] at h
      refine cs (fun hc => ?_) (fun hc => ?_)
      rotate_left
      · simp at hc <;> omega
      have hU : ∀ (H : AHeap) (K : AV → AHeap → Prop), K (.v (.int .i64 ((lvStart c.sender).user e.sender))) H → ACall X 69 [.agg (stCells c.sender), .s e.sender] H K := fun H K hk => puser_c (lvStart c.sender) (start_len _) _ H K hk
      (apply sR; intro K hK; (iterate 6 (apply s_q; decide; rfl; (simp only [go_sem, g1, hgc]; rfl))); apply s_call; decide; (iterate 2 (simp only [go_sem, g1, hgc]; rfl)); apply start_c; apply s_q; decide; rfl; (simp only [go_sem, g1, hgc]; rfl); apply s_call; decide; (iterate 2 (simp only [go_sem, g1, hgc]; rfl)); apply hU; apply s_q; decide; rfl; (simp only [go_sem, g1, hgc]; rfl); refine s_nil (hK _ _ ?_); clear hK K; apply AWp_ret; simp only [AThen, ABlock]; apply end_ret; rfl; simp only [AFr.get, reduceIte, Nat.reduceEqDiff])
      exact ⟨H, hE, h⟩
  · rw [e1] at h ⊢
    rw [if_pos (by omega)] at h
    obtain ⟨c, hcm⟩ := gete (l := p.events) (i := n) (by omega)
    have hgc := ev_at hcm
    rw [ev_of hcm] at h
    have hsc := hsm c (List.mem_of_getElem? hcm)
    obtain ⟨L, er, hl1, hl2, hl3⟩ := lvRes_eq (lvParse c.content)
    have hP : ∀ (H : AHeap) (K : AV → AHeap → Prop), K (.tup [.agg L.cells, .v (.int .i64 er)]) H → ACall X 68 [.agg (jCells c.content)] H K := fun H K hk => by
      have := parse_c c.content hsc.fit hsc.short H K (by rw [hl1]; exact hk)
      rwa [J.cells_eq] at this
    refine cs (fun hc => ?_) (fun hc => ?_)
    rotate_left
    · simp at hc <;> omega
    rw [Lv.cells] at hP
    (apply sR; intro K hK; (iterate 6 (apply s_q; decide; rfl; (simp only [go_sem, g1, hgc]; rfl))); apply s_call; decide; (iterate 2 (simp only [go_sem, g1, hgc]; rfl)); apply hP; (iterate 3 (apply s_q; decide; rfl; (simp only [go_sem, g1, hgc]; rfl))); apply s_alloc; decide; exact zc_58; intro b hb; apply s_store; (iterate 3 (simp only [go_sem, g1, hgc]; rfl)); apply s_q; decide; rfl; (simp only [go_sem, g1, hgc]; rfl); refine s_nil (hK _ _ ?_); clear hK K; apply sK; intro K hK; apply sR; intro K hK; (iterate 2 (apply s_q; decide; rfl; (simp only [go_sem, g1, hgc]; rfl))); refine s_nil (hK _ _ ?_); clear hK K)
    obtain ⟨lb, hnewq⟩ : ∃ q, q = b := ⟨_, rfl⟩; have hlb := hb; rw [← hnewq] at hlb ⊢; clear hb hnewq; try clear he; clear b
    generalize hgenq : AHeap.put lb _ M = M2; obtain ⟨gl, hextq⟩ := gen_ex hgenq hlb; have g1 := hextq _ _ g1; have hE := Ext.trans hE hextq; clear hextq hgenq
    skip
    refine cs (fun hz => ?_) (fun hz => ?_)
    · have hz : ¬ er = 0 := by simpa using hz
      rw [(hl3 hz).1] at h
      (apply sR; intro K hK; refine qr ?_; refine s_nil (hK _ _ ?_); clear hK K; apply AWp_ret; simp only [AThen, ABlock]; apply end_ret; rfl; simp only [AFr.get, reduceIte, Nat.reduceEqDiff])
      exact ⟨H, by assumption, h⟩
    · have hz : er = 0 := by simpa using hz
      have hpl := hl2 hz
      rw [hpl] at h
      have hU : ∀ (H : AHeap) (K : AV → AHeap → Prop), K (.v (.int .i64 (L.user e.sender))) H → ACall X 69 [.agg [.v (.int .i64 L.ban), .v (.int .i64 L.kick), .v (.int .i64 L.invite), .v (.int .i64 L.redact), .v (.int .i64 L.state), .v (.int .i64 L.events), .v (.int .i64 L.users), .sl false (L.byUser.map nmCells), .sl false (L.byType.map nmCells)], .s e.sender] H K := fun H K hk => puser_c L (parse_len hsc.fit hpl) _ H K hk
      (refine AWp_skip (hK _ _ ?_); clear hK K; apply sR; intro K hK; (iterate 2 (apply s_q; decide; rfl; (simp only [go_sem, gl]; rfl))); apply s_call; decide; (iterate 2 (simp only [go_sem, gl]; rfl)); apply hU; apply s_q; decide; rfl; (simp only [go_sem, gl]; rfl); refine s_nil (hK _ _ ?_); clear hK K; apply AWp_ret; simp only [AThen, ABlock]; apply end_ret; rfl; simp only [AFr.get, reduceIte, Nat.reduceEqDiff])
      exact ⟨H, by assumption, h⟩
set_option maxHeartbeats 4000000 in
theorem level12_c (p : Pa) (hw : p.Wide) (hsm : ∀ e ∈ p.events, Sml e.content) (i : Int) (H : AHeap) (K : AV → AHeap → Prop) (h : K (.v (.int .i64 (levA p i))) H) : ACall X 16 [.agg p.cells, .v (.int .i64 i)] H K := by
  refine ACall.drop ?_
  have hR : ∀ (H : AHeap) (K : AV → AHeap → Prop), K (.v (.bool (rightB p))) H → ACall X 25 [.agg (paCells p)] H K := fun H K hK => right_c p hw H K hK
  have hT : ∀ (H : AHeap) (K : AV → AHeap → Prop), K (.v (.bool (inR p.events.length i))) H → ACall X 37 [.agg (paCells p), .v (.int .i64 i)] H K := fun H K hK => there_c p hw i H K hK
  rw [levA] at h
  rw [Pa.cells]
  refine ACall_intro Tryz.func16 rfl (by kernel_rfl) (by rw [Tryz.ntmps16]; simp) ?_; rw [Tryz.ntmps16]; simp only [frame0, Nat.reduceAdd]
  apply sR; intro K hK
  apply s_box; decide; exact (by simp only [go_sem]; try rfl); exact (by simp only [go_sem]; try rfl); intro q hq
  generalize hgenq : AHeap.put q _ H = M; obtain ⟨g1, hextq⟩ := gen_ex hgenq hq; have hE := hextq; clear hextq hgenq
  (apply s_q; decide; rfl; (simp only [go_sem, g1]; rfl); refine s_nil (hK _ _ ?_); clear hK K; apply sK; intro K hK; apply sR; intro K hK; apply s_q; decide; rfl; (simp only [go_sem, g1]; rfl); apply s_call; decide; (iterate 2 (simp only [go_sem, g1]; rfl)); apply hR; (iterate 2 (apply s_q; decide; rfl; (simp only [go_sem, g1]; rfl))); (iterate 2 (apply s_spec; decide; rfl; rfl; (iterate 4 (simp only [go_sem, g1]; rfl)); trivial)); apply s_gpure; decide; (iterate 3 (simp only [go_sem, g1]; rfl)); simp [condsOk]; (iterate 2 (simp only [go_sem, g1]; rfl)); (apply hT; exact ⟨rfl, rfl⟩); apply s_spec; decide; rfl; rfl; (iterate 4 (simp only [go_sem, g1]; rfl)); simp [condsOk]; apply s_pick; decide; (iterate 6 (simp only [go_sem, g1]; rfl)); trivial; trivial; simp [condsOk]; refine s_nil (hK _ _ ?_); clear hK K)
  refine cs (fun hc => ?_) (fun hc => ?_)
  · rw [if_neg (by revert hc; cases rightB p <;> simp)] at h
    (apply sR; intro K hK; refine qr ?_; refine s_nil (hK _ _ ?_); clear hK K; apply AWp_ret; simp only [AThen, ABlock]; apply end_ret; rfl; simp only [AFr.get, reduceIte, Nat.reduceEqDiff])
    exact ⟨H, hE, h⟩
  · have hb : rightB p = true ∧ inR p.events.length i = true := by revert hc; cases rightB p <;> simp
    rw [hb.1, hb.2] at h
    have hin : 0 ≤ i ∧ i < p.events.length := by simpa [inR] using hb.2
    obtain ⟨n, rfl⟩ : ∃ n : Nat, i = n := ⟨i.toNat, by omega⟩
    have hL : ∀ (H : AHeap) (K : AV → AHeap → Prop), K (.v (.int .i64 (levN p n))) H → ACall X 38 [.agg (paCells p), .v (.int .i64 n)] H K := fun H K hK => lev_c p hw (right_true hb.1) hsm n (by omega) H K hK
    (refine AWp_skip (hK _ _ ?_); clear hK K; apply sR; intro K hK; (iterate 2 (apply s_q; decide; rfl; (simp only [go_sem, g1]; rfl))); apply s_call; decide; (iterate 2 (simp only [go_sem, g1]; rfl)); apply hL; apply s_q; decide; rfl; (simp only [go_sem, g1]; rfl); refine s_nil (hK _ _ ?_); clear hK K; apply AWp_ret)
    exact ⟨H, hE, h⟩
set_option maxHeartbeats 4000000 in
theorem rlevel12_c (p : Pa) (hw : p.Wide) (hsm : ∀ e ∈ p.events, Sml e.content) (i : Int) (H : AHeap) (K : AV → AHeap → Prop) (h : K (.v (.int .i64 (levA p i))) H) : ACall X 17 [.agg p.cells, .v (.int .i64 i)] H K := by
  have w2 := hw.ev
  refine ACall.drop ?_
  have hR : ∀ (H : AHeap) (K : AV → AHeap → Prop), K (.v (.bool (rightB p))) H → ACall X 26 [.agg (paCells p)] H K := fun H K hK => rright_c p hw H K hK
  rw [levA] at h
  rw [Pa.cells]
  refine ACall_intro Tryz.func17 rfl (by kernel_rfl) (by rw [Tryz.ntmps17]; simp) ?_; rw [Tryz.ntmps17]; simp only [frame0, Nat.reduceAdd]
  apply sR; intro K hK
  apply s_box; decide; exact (by simp only [go_sem]; try rfl); exact (by simp only [go_sem]; try rfl); intro q hq
  generalize hgenq : AHeap.put q _ H = M; obtain ⟨g1, hextq⟩ := gen_ex hgenq hq; have hE := hextq; clear hextq hgenq
  (apply s_q; decide; rfl; (simp only [go_sem, g1]; rfl); refine s_nil (hK _ _ ?_); clear hK K; apply sK; intro K hK; apply sR; intro K hK; apply s_q; decide; rfl; (simp only [go_sem, g1]; rfl); apply s_call; decide; (iterate 2 (simp only [go_sem, g1]; rfl)); apply hR; (iterate 2 (apply s_q; decide; rfl; (simp only [go_sem, g1]; rfl))); apply s_spec; decide; rfl; rfl; (iterate 4 (simp only [go_sem, g1]; rfl)); trivial; apply s_spec; decide; rfl; rfl; (iterate 4 (simp only [go_sem, g1]; rfl)); simp [condsOk]; apply s_pick; decide; (iterate 6 (simp only [go_sem, g1]; rfl)); trivial; trivial; simp [condsOk]; apply s_q; decide; rfl; (simp only [go_sem, g1]; rfl); (iterate 2 (apply s_spec; decide; rfl; rfl; (iterate 4 (simp only [go_sem, g1]; rfl)); trivial)); (iterate 3 (apply s_spec; decide; rfl; rfl; (iterate 4 (simp only [go_sem, g1]; rfl)); simp [condsOk])); apply s_pick; decide; (iterate 6 (simp only [go_sem, g1]; rfl)); trivial; trivial; simp [condsOk]; refine s_nil (hK _ _ ?_); clear hK K)
  refine cs (fun hc => ?_) (fun hc => ?_)
  · rw [if_neg (by
      revert hc
      rw [inR]
      cases rightB p <;> simp <;> omega)] at h
    (apply sR; intro K hK; refine qr ?_; refine s_nil (hK _ _ ?_); clear hK K; apply AWp_ret; simp only [AThen, ABlock]; apply end_ret; rfl; simp only [AFr.get, reduceIte, Nat.reduceEqDiff])
    exact ⟨H, hE, h⟩
  have hb : rightB p = true ∧ 0 ≤ i ∧ i < p.events.length := by
    revert hc
    cases rightB p <;> simp
  obtain ⟨hrb, hi0, hi1⟩ := hb
  have hr := right_true hrb
  obtain ⟨i, rfl⟩ : ∃ n : Nat, i = n := ⟨i.toNat, by omega⟩
  have hi : i < p.events.length := by omega
  rw [hrb, show inR p.events.length (i : Int) = true by simp [inR]; omega] at h
  simp only [Bool.and_self, if_true, Int.toNat_natCast] at h
  obtain ⟨e, he⟩ := gete hi
  have hge := ev_at he
  have hev := ev_of he
  rw [levN, hev] at h
  have hF : ∀ (kind : List UInt8) (H : AHeap) (K : AV → AHeap → Prop), K (.v (.int .i64 (leanI p i kind))) H → ACall X 39 [.agg (paCells p), .v (.int .i64 i), .s kind] H K := fun kind H K hK => leans_c p hw hr i hi kind H K hK
  (refine AWp_skip (hK _ _ ?_); clear hK K; apply sR; intro K hK; (iterate 2 (apply s_q; decide; rfl; (simp only [go_sem, g1, hge]; rfl))); apply s_call; decide; (iterate 2 (simp only [go_sem, g1, hge]; rfl)); apply hF tPower; apply s_q; decide; rfl; (simp only [go_sem, g1, hge]; rfl); refine s_nil (hK _ _ ?_); clear hK K; apply sK; intro K hK; apply sR; intro K hK; (iterate 2 (apply s_q; decide; rfl; (simp only [go_sem, g1, hge]; rfl))); refine s_nil (hK _ _ ?_); clear hK K)
  rcases leanI_lt hr (i := i) (kind := tPower) with e1 | ⟨n, e1, hn, _⟩
  · rw [e1] at h ⊢
    rw [if_neg (by decide)] at h
    refine cs (fun hc2 => ?_) (fun hc2 => ?_)
    · cases hc2
    (refine AWp_skip (hK _ _ ?_); clear hK K; apply sR; intro K hK; (iterate 2 (apply s_q; decide; rfl; (simp only [go_sem, g1]; rfl))); apply s_call; decide; (iterate 2 (simp only [go_sem, g1]; rfl)); apply hF tCreate; apply s_q; decide; rfl; (simp only [go_sem, g1]; rfl); refine s_nil (hK _ _ ?_); clear hK K; apply sK; intro K hK; apply sR; intro K hK; (iterate 2 (apply s_q; decide; rfl; (simp only [go_sem, g1]; rfl))); refine s_nil (hK _ _ ?_); clear hK K)
    rcases leanI_lt hr (i := i) (kind := tCreate) with e2 | ⟨m, e2, hm, _⟩
    · rw [e2] at h ⊢
      rw [if_neg (by decide)] at h
      refine cs (fun hc2 => ?_) (fun hc2 => ?_)
      rotate_left
      · cases hc2
      (apply sR; intro K hK; refine qr ?_; refine s_nil (hK _ _ ?_); clear hK K; apply AWp_ret; simp only [AThen, ABlock]; apply end_ret; rfl; simp only [AFr.get, reduceIte, Nat.reduceEqDiff])
      exact ⟨H, hE, h⟩
    · rw [e2] at h ⊢
      rw [if_pos (by omega)] at h
      obtain ⟨c, hcm⟩ := gete (l := p.events) (i := m) (by omega)
      have hgc := ev_at hcm
      rw [ev_of hcm] at h
      refine cs (fun hc2 => ?_) (fun hc2 => ?_)
      · simp at hc2 <;> omega
      have hU : ∀ (H : AHeap) (K : AV → AHeap → Prop), K (.v (.int .i64 ((lvStart c.sender).user e.sender))) H → ACall X 41 [.agg (stCells c.sender), .s e.sender] H K := fun H K hk => ruser_c (lvStart c.sender) (start_len _) _ H K hk
      (refine AWp_skip (hK _ _ ?_); clear hK K; apply sK; intro K hK)
      apply AWp_drawA [0, 1, 2, 3, 4, 5, 6, 7, 8, 9, 10, 11, 12, 13, 14] [] 0 (by exact mixed); kernel_rfl; (iterate 2 (simp only [go_sem]; rfl))
      ((iterate 6 (apply e_q; decide; (simp only [go_sem, g1, hgc, hge]; rfl))); apply e_call; decide; (iterate 2 (simp only [go_sem, g1, hgc, hge]; rfl)); (apply rstart_c; exact ⟨rfl, rfl⟩); (iterate 6 (apply e_q; decide; (simp only [go_sem, g1, hgc, hge]; rfl))); apply e_call; decide; (iterate 2 (simp only [go_sem, g1, hgc, hge]; rfl)); (apply hU; exact ⟨rfl, rfl⟩); apply e_q; decide; (simp only [go_sem, g1, hgc, hge]; rfl); apply e_nil; refine t_nil (hK _ _ ?_); clear hK K; apply AWp_ret)
      exact ⟨H, hE, h⟩
  · rw [e1] at h ⊢
    rw [if_pos (by omega)] at h
    obtain ⟨c, hcm⟩ := gete (l := p.events) (i := n) (by omega)
    have hgc := ev_at hcm
    rw [ev_of hcm] at h
    have hsc := hsm c (List.mem_of_getElem? hcm)
    obtain ⟨L, er, hl1, hl2, hl3⟩ := lvRes_eq (lvParse c.content)
    have hP : ∀ (H : AHeap) (K : AV → AHeap → Prop), K (.tup [.agg L.cells, .v (.int .i64 er)]) H → ACall X 40 [.agg (jCells c.content)] H K := fun H K hk => by
      have := rparse_c c.content hsc.fit H K (by rw [hl1]; exact hk)
      rwa [J.cells_eq] at this
    refine cs (fun hc2 => ?_) (fun hc2 => ?_)
    rotate_left
    · simp at hc2 <;> omega
    rw [Lv.cells] at hP
    (apply sR; intro K hK; (iterate 6 (apply s_q; decide; rfl; (simp only [go_sem, g1, hgc]; rfl))); apply s_call; decide; (iterate 2 (simp only [go_sem, g1, hgc]; rfl)); apply hP; (iterate 3 (apply s_q; decide; rfl; (simp only [go_sem, g1, hgc]; rfl))); apply s_alloc; decide; exact zc_58; intro b hb; apply s_store; (iterate 3 (simp only [go_sem, g1, hgc]; rfl)); apply s_q; decide; rfl; (simp only [go_sem, g1, hgc]; rfl); refine s_nil (hK _ _ ?_); clear hK K; apply sK; intro K hK; apply sR; intro K hK; (iterate 2 (apply s_q; decide; rfl; (simp only [go_sem, g1, hgc]; rfl))); refine s_nil (hK _ _ ?_); clear hK K)
    obtain ⟨lb, hnewq⟩ : ∃ q, q = b := ⟨_, rfl⟩; have hlb := hb; rw [← hnewq] at hlb ⊢; clear hb hnewq; try clear he; clear b
    generalize hgenq : AHeap.put lb _ M = M2; obtain ⟨gl, hextq⟩ := gen_ex hgenq hlb; have g1 := hextq _ _ g1; have hE := Ext.trans hE hextq; clear hextq hgenq
    skip
    refine cs (fun hz => ?_) (fun hz => ?_)
    · have hz : ¬ er = 0 := by simpa using hz
      rw [(hl3 hz).1] at h
      (apply sR; intro K hK; refine qr ?_; refine s_nil (hK _ _ ?_); clear hK K; apply AWp_ret; simp only [AThen, ABlock]; apply end_ret; rfl; simp only [AFr.get, reduceIte, Nat.reduceEqDiff])
      exact ⟨H, by assumption, h⟩
    · have hz : er = 0 := by simpa using hz
      have hpl := hl2 hz
      rw [hpl] at h
      have hU : ∀ (H : AHeap) (K : AV → AHeap → Prop), K (.v (.int .i64 (L.user e.sender))) H → ACall X 41 [.agg [.v (.int .i64 L.ban), .v (.int .i64 L.kick), .v (.int .i64 L.invite), .v (.int .i64 L.redact), .v (.int .i64 L.state), .v (.int .i64 L.events), .v (.int .i64 L.users), .sl false (L.byUser.map nmCells), .sl false (L.byType.map nmCells)], .s e.sender] H K := fun H K hk => ruser_c L (parse_len hsc.fit hpl) _ H K hk
      (refine AWp_skip (hK _ _ ?_); clear hK K; apply sK; intro K hK)
      apply AWp_drawA [0, 1, 2, 3, 4, 5, 6, 7, 8] [] 0 (by exact mixed); kernel_rfl; (iterate 2 (simp only [go_sem]; rfl))
      ((iterate 7 (apply e_q; decide; (simp only [go_sem, g1, gl, hge]; rfl))); apply e_call; decide; (iterate 2 (simp only [go_sem, g1, gl, hge]; rfl)); (apply hU; exact ⟨rfl, rfl⟩); apply e_q; decide; (simp only [go_sem, g1, gl, hge]; rfl); apply e_nil; refine t_nil (hK _ _ ?_); clear hK K; apply AWp_ret; simp only [AThen, ABlock]; apply end_ret; rfl; simp only [AFr.get, reduceIte, Nat.reduceEqDiff])
      exact ⟨H, by assumption, h⟩

def idxS (k : List UInt8) (l : List (List UInt8)) : Int := match l.findIdx? (fun x => decide (x = k)) with | some i => i | none => -1
theorem idxS_at {k : List UInt8} {l : List (List UInt8)} {i : Nat} (h : l[i]? = some k) (hb : ∀ x ∈ l.take i, x ≠ k) : idxS k l = i := by
  have : l.findIdx? (fun x => decide (x = k)) = some i := by
    obtain ⟨hi, he⟩ := List.getElem?_eq_some_iff.1 h
    rw [List.findIdx?_eq_some_iff_getElem]
    refine ⟨hi, by simp [he], fun j hj => ?_⟩
    have := hb l[j] (List.mem_take_iff_getElem.2 ⟨j, by omega, rfl⟩)
    simpa using this
  rw [idxS, this]
theorem idxS_none {k : List UInt8} {l : List (List UInt8)} (hb : ∀ x ∈ l, x ≠ k) : idxS k l = -1 := by
  have : l.findIdx? (fun x => decide (x = k)) = none := by
    rw [List.findIdx?_eq_none_iff]
    intro x hx; simpa using hb x hx
  rw [idxS, this]
theorem indexS_c (t : Bool) (l : List (List UInt8)) (k : List UInt8) (hl : l.length ≤ 4611686018427387904) (H : AHeap) (K : AV → AHeap → Prop) (h : K (.v (.int .i64 (idxS k l))) H) : ACall X 65 [.sl t (l.map strCells), .s k] H K := by
  refine ACall_intro Tryz.func65 rfl (by kernel_rfl) (by rw [Tryz.ntmps65]; simp) ?_; rw [Tryz.ntmps65]; simp only [frame0, Nat.reduceAdd]
  (apply sR; intro K hK; refine qr ?_; refine s_nil (hK _ _ ?_); clear hK K; apply sK; intro K hK; apply sR; intro K hK; (iterate 3 (refine qr ?_)); refine s_nil (hK _ _ ?_); clear hK K; apply AWp_block)
  refine AWp_loop_s (σ := Nat) [0, 1, 7, 8] (fun i => [.sl t (l.map strCells), .s k, .v (.int .i64 l.length), .v (.int .i64 i)]) (fun _ => H) (fun i => l.length - i) (fun i => i ≤ l.length ∧ ∀ x ∈ l.take i, x ≠ k) 0 ⟨Nat.zero_le _, by simp⟩ rfl rfl (fun i hi => ?_)
  simp only [List.zip_cons_cons, List.zip_nil_right]
  (apply sR; intro K hK; refine qr ?_; refine s_nil (hK _ _ ?_); clear hK K; apply sK; intro K hK)
  refine cs (fun hc => ?_) (fun hc => ?_)
  · have hlt : i < l.length := by simpa using hc
    obtain ⟨a, hm⟩ : ∃ a, l[i]? = some a := ⟨_, List.getElem?_eq_getElem hlt⟩
    have hg : (l.map strCells)[i]? = some [.s a] := by rw [List.getElem?_map, hm]; rfl
    (refine AWp_skip (hK _ _ ?_); clear hK K; apply sK; intro K hK; apply AWp_block; apply sR; intro K hK; (iterate 2 (apply s_q; decide; rfl; (simp only [go_sem, hg]; rfl))); refine s_nil (hK _ _ ?_); clear hK K; apply sR; intro K hK; (iterate 6 (apply s_q; decide; rfl; (simp only [go_sem, hg]; rfl))); refine s_nil (hK _ _ ?_); clear hK K)
    refine cs (fun hd => ?_) (fun hd => ?_)
    · have hk : a = k := by simp at hd; exact hd.symm
      subst hk
      (apply sR; intro K hK; (iterate 2 (refine qr ?_)); refine s_nil (hK _ _ ?_); clear hK K; apply AWp_ret; simp only [AThen, ABlock]; apply end_ret; rfl; simp only [AFr.get, reduceIte, Nat.reduceEqDiff])
      exact finI h (idxS_at hm hi.2).symm
    · have hk : a ≠ k := fun e => by simp [e] at hd
      (refine AWp_skip (hK _ _ ?_); clear hK K; apply s_region; (iterate 2 (refine qr ?_)); apply s_nil; simp only [AThen, ABlock])
      refine ⟨i + 1, by omega, ⟨by omega, ?_⟩, ?_, by trivial⟩
      · rw [List.take_add_one, hm]
        intro x hx
        rw [List.mem_append] at hx
        rcases hx with hx | hx
        · exact hi.2 x hx
        · simp at hx; subst hx; exact hk
      · simp only [getAll, List.map_cons, List.map_nil, AFr.get]
        rw [wrapS hlt (by omega)]; rfl
  · have hge : l.length ≤ i := by simpa using hc
    (apply AWp_exit; simp only [AThen, ABlock, reduceIte, Nat.reduceEqDiff]; clear hK K; refine hK _ _ ?_; clear hK K; apply sR; intro K hK; refine qr ?_; refine s_nil (hK _ _ ?_); clear hK K; apply AWp_ret)
    exact finI h (idxS_none (fun x hx => hi.2 x (by rw [List.take_of_length_le hge]; exact hx))).symm
theorem zip_find {k : List UInt8} : ∀ (l : List (List UInt8)) (m : List J), ((l.zip m).find? fun p => decide (p.1 = k)).map (·.2) = match l.findIdx? (fun x => decide (x = k)) with | some i => m[i]? | none => none
  | [], m => by simp
  | a :: l, [] => by
    simp only [List.zip_nil_right, List.find?_nil, Option.map_none]
    split <;> simp
  | a :: l, b :: m => by
    rw [List.zip_cons_cons, List.find?_cons, List.findIdx?_cons]
    by_cases h : a = k
    · simp [h]
    · simp only [h, decide_false, Bool.false_eq_true, ite_false]
      rw [zip_find l m]
      cases l.findIdx? (fun x => decide (x = k)) <;> simp
def kMem : List UInt8 := [109, 101, 109, 98, 101, 114, 115, 104, 105, 112]
def memT (c : J) : List UInt8 := match jGet c kMem with | some v => if v.kind = 3 then v.text else [] | none => []
theorem memT_at {c : J} {i : Nat} {v : J} (hk : c.kind = 5) (h : idxS kMem c.keys = i) (hv : c.list[i]? = some v) : memT c = if v.kind = 3 then v.text else [] := by
  rw [memT, jGet, if_pos hk, zip_find]
  unfold idxS at h
  split at h
  · rename_i j hj
    obtain rfl : j = i := by omega
    simp only [hv]
  · omega
theorem memT_no {c : J} (h : ¬ (0 ≤ idxS kMem c.keys ∧ idxS kMem c.keys < c.list.length)) : memT c = [] := by
  rw [memT, jGet]
  split
  · rename_i v hv
    split at hv
    · rw [zip_find] at hv
      unfold idxS at h
      split at h
      · rename_i j hj
        rw [hj] at hv
        have := (List.getElem?_eq_some_iff.1 hv).1
        omega
      · rename_i hj
        rw [hj] at hv; cases hv
    · cases hv
  · rfl
theorem memT_kind {c : J} (h : c.kind ≠ 5) : memT c = [] := by rw [memT, jGet, if_neg h]
theorem idxS_cases (k : List UInt8) (l : List (List UInt8)) : idxS k l = -1 ∨ ∃ i : Nat, idxS k l = i := by
  unfold idxS
  split
  · exact .inr ⟨_, rfl⟩
  · exact .inl rfl
theorem finS {K : AV → AHeap → Prop} {H : AHeap} {a b : List UInt8} (h : K (.s a) H) (e : b = a) : K (.s b) H := e ▸ h
theorem mship_c (e : Ev) (hw : e.Wide) (H : AHeap) (K : AV → AHeap → Prop) (h : K (.s (memT e.content)) H) : ACall X 33 [.agg e.cells] H K := by
  obtain ⟨l1, l2, l3⟩ := J.len_eq.1 hw.1
  have hI : ∀ (H : AHeap) (K : AV → AHeap → Prop), K (.v (.int .i64 (idxS kMem e.content.keys))) H → ACall X 65 [.sl false (e.content.keys.map strCells), .s kMem] H K := fun H K hk => indexS_c false _ _ (by omega) H K hk
  refine ACall.drop ?_
  rw [Ev.cells]
  refine ACall_intro Tryz.func33 rfl (by kernel_rfl) (by rw [Tryz.ntmps33]; simp) ?_; rw [Tryz.ntmps33]; simp only [frame0, Nat.reduceAdd]
  apply sR; intro K hK
  apply s_box; decide; exact (by simp only [go_sem]; try rfl); exact (by simp only [go_sem]; try rfl); intro p hp
  generalize hgenq : AHeap.put p _ H = M; obtain ⟨g1, hextq⟩ := gen_ex hgenq hp; have hE := hextq; clear hextq hgenq
  (apply s_q; decide; rfl; (simp only [go_sem, g1]; rfl); refine s_nil (hK _ _ ?_); clear hK K; apply sR; intro K hK; (iterate 3 (apply s_q; decide; rfl; (simp only [go_sem, g1]; rfl))); apply s_call; decide; (iterate 2 (simp only [go_sem, g1]; rfl)); apply hI; apply s_q; decide; rfl; (simp only [go_sem, g1]; rfl); refine s_nil (hK _ _ ?_); clear hK K; apply sK; intro K hK; apply sR; intro K hK; (iterate 5 (apply s_q; decide; rfl; (simp only [go_sem, g1]; rfl))); apply s_spec; decide; rfl; rfl; (iterate 4 (simp only [go_sem, g1]; rfl)); trivial; apply s_spec; decide; rfl; rfl; (iterate 4 (simp only [go_sem, g1]; rfl)); simp [condsOk]; apply s_pick; decide; (iterate 6 (simp only [go_sem, g1]; rfl)); trivial; trivial; simp [condsOk]; apply s_q; decide; rfl; (simp only [go_sem, g1]; rfl); (iterate 2 (apply s_spec; decide; rfl; rfl; (iterate 4 (simp only [go_sem, g1]; rfl)); trivial)); (iterate 4 (apply s_spec; decide; rfl; rfl; (iterate 4 (simp only [go_sem, g1]; rfl)); simp [condsOk])); apply s_pick; decide; (iterate 6 (simp only [go_sem, g1]; rfl)); trivial; trivial; simp [condsOk]; apply s_q; decide; rfl; (simp only [go_sem, g1]; rfl); apply s_spec; decide; rfl; rfl; (iterate 4 (simp only [go_sem, g1]; rfl)); trivial; (iterate 2 (apply s_spec; decide; rfl; rfl; (iterate 4 (simp only [go_sem, g1]; rfl)); simp [condsOk])); apply s_spec; decide; rfl; rfl; (iterate 4 (simp only [go_sem, g1]; rfl)); trivial)
  by_cases hin : 0 ≤ idxS kMem e.content.keys ∧ idxS kMem e.content.keys < e.content.list.length
  · rcases idxS_cases kMem e.content.keys with hi | ⟨i, hi⟩
    · omega
    rw [hi] at hin ⊢
    obtain ⟨v, hv⟩ := gete (l := e.content.list) (i := i) (by omega)
    have hgv := eget_at hv
    (apply s_when; decide; (iterate 3 (simp only [go_sem, g1, hgv]; rfl)); simp [condsOk]; (intro hg; (focus (simp only [go_sem, g1, hgv]; (try rfl); done))); (iterate 3 (apply s_spec; decide; rfl; rfl; (iterate 4 (simp only [go_sem, g1, hgv]; rfl)); simp [condsOk])); apply s_pick; decide; (iterate 6 (simp only [go_sem, g1, hgv]; rfl)); trivial; trivial; simp [condsOk]; refine s_nil (hK _ _ ?_); clear hK K)
    refine cs (fun hc => ?_) (fun hc => ?_)
    · (apply sR; intro K hK; refine qr ?_; refine s_nil (hK _ _ ?_); clear hK K; apply AWp_ret; simp only [AThen, ABlock]; apply end_ret; rfl; simp only [AFr.get, reduceIte, Nat.reduceEqDiff])
      refine ⟨H, hE, finS h ?_⟩
      by_cases hk : e.content.kind = 5
      · rw [memT_at hk hi hv, if_neg]
        intro h3
        simp [hk, h3] at hc
        omega
      · rw [memT_kind hk]
    · (refine AWp_skip (hK _ _ ?_); clear hK K; apply sR; intro K hK; (iterate 8 (apply s_q; decide; rfl; (simp only [go_sem, g1, hgv]; rfl))); refine s_nil (hK _ _ ?_); clear hK K; apply AWp_ret)
      refine ⟨H, hE, finS h ?_⟩
      have h5 : e.content.kind = 5 ∧ v.kind = 3 := by
        by_cases hk : e.content.kind = 5 <;> by_cases h3 : v.kind = 3 <;> simp_all
      rw [memT_at h5.1 hi hv, if_pos h5.2]
  · rw [memT_no hin] at h
    generalize idxS kMem e.content.keys = i at hin
    ((iterate 4 (apply s_when (av := (.v (.bool false))); decide; (iterate 3 (simp only [go_sem, g1]; rfl)); simp [condsOk]; (focus (intro hg; first | (cases hg; done) | (simp at hg; done) | (simp at hg; omega))))); apply s_pick; decide; (iterate 6 (simp only [go_sem, g1]; rfl)); trivial; trivial; simp [condsOk]; refine s_nil (hK _ _ ?_); clear hK K)
    refine cs (fun hc => ?_) (fun hc => ?_)
    · (apply sR; intro K hK; refine qr ?_; refine s_nil (hK _ _ ?_); clear hK K; apply AWp_ret; simp only [AThen, ABlock]; apply end_ret; rfl; simp only [AFr.get, reduceIte, Nat.reduceEqDiff])
      exact ⟨H, hE, h⟩
    · exfalso
      simp at hc
      omega
def tMem : List UInt8 := [109, 46, 114, 111, 111, 109, 46, 109, 101, 109, 98, 101, 114]
def powB (e : Ev) : Bool := e.isState && if e.type = tMem then !decide (e.key = e.sender) && (decide (memT e.content = [108, 101, 97, 118, 101]) || decide (memT e.content = [98, 97, 110])) else decide (e.key = []) && (decide (e.type = tPower) || decide (e.type = [109, 46, 114, 111, 111, 109, 46, 106, 111, 105, 110, 95, 114, 117, 108, 101, 115]))
set_option maxHeartbeats 2000000 in
theorem powers_c (e : Ev) (hw : e.Wide) (H : AHeap) (K : AV → AHeap → Prop) (h : K (.v (.bool (powB e))) H) : ACall X 12 [.agg e.cells] H K := by
  have hM : ∀ (H : AHeap) (K : AV → AHeap → Prop), K (.s (memT e.content)) H → ACall X 33 [.agg e.cells] H K := fun H K hk => mship_c e hw H K hk
  refine ACall.drop ?_
  rw [Ev.cells] at hM ⊢
  refine ACall_intro Tryz.func12 rfl (by kernel_rfl) (by rw [Tryz.ntmps12]; simp) ?_; rw [Tryz.ntmps12]; simp only [frame0, Nat.reduceAdd]
  apply sR; intro K hK
  apply s_box; decide; exact (by simp only [go_sem]; try rfl); exact (by simp only [go_sem]; try rfl); intro p hp
  generalize hgenq : AHeap.put p _ H = M; obtain ⟨g1, hextq⟩ := gen_ex hgenq hp; have hE := hextq; clear hextq hgenq
  (apply s_q; decide; rfl; (simp only [go_sem, g1]; rfl); refine s_nil (hK _ _ ?_); clear hK K; apply sK; intro K hK; apply AWp_block; apply sR; intro K hK; (iterate 4 (apply s_q; decide; rfl; (simp only [go_sem, g1]; rfl))); refine s_nil (hK _ _ ?_); clear hK K)
  refine cs (fun hs => ?_) (fun hs => ?_)
  · (apply sR; intro K hK; refine qr ?_; refine s_nil (hK _ _ ?_); clear hK K; apply AWp_ret; simp only [AThen, ABlock]; apply end_ret; rfl; simp only [AFr.get, reduceIte, Nat.reduceEqDiff])
    refine ⟨H, hE, finB h ?_⟩
    simp at hs
    simp [powB, hs]
  have hs : e.isState = true := by simpa using hs
  (apply sR; intro K hK; (iterate 4 (apply s_q; decide; rfl; (simp only [go_sem, g1]; rfl))); refine s_nil (hK _ _ ?_); clear hK K)
  refine cs (fun ht => ?_) (fun ht => ?_)
  · have ht : e.type = tMem := by simpa [tMem] using ht
    (apply sR; intro K hK; apply s_q; decide; rfl; (simp only [go_sem, g1]; rfl); apply s_call; decide; (iterate 2 (simp only [go_sem, g1]; rfl)); apply hM; apply s_q; decide; rfl; (simp only [go_sem, g1]; rfl); refine s_nil (hK _ _ ?_); clear hK K; apply sR; intro K hK; (iterate 6 (apply s_q; decide; rfl; (simp only [go_sem, g1]; rfl))); apply s_spec; decide; rfl; rfl; (iterate 4 (simp only [go_sem, g1]; rfl)); trivial; (iterate 2 (apply s_spec; decide; rfl; rfl; (iterate 4 (simp only [go_sem, g1]; rfl)); simp [condsOk])); apply s_spec; decide; rfl; rfl; (iterate 4 (simp only [go_sem, g1]; rfl)); trivial; apply s_spec; decide; rfl; rfl; (iterate 4 (simp only [go_sem, g1]; rfl)); simp [condsOk]; apply s_pickg; decide; (iterate 8 (simp only [go_sem, g1]; rfl)); simp [condsOk]; trivial; simp [condsOk]; apply s_pick; decide; (iterate 6 (simp only [go_sem, g1]; rfl)); trivial; simp [condsOk]; trivial; apply s_q; decide; rfl; (simp only [go_sem, g1]; rfl); refine s_nil (hK _ _ ?_); clear hK K; apply AWp_ret; simp only [AThen, ABlock]; apply end_ret; rfl; simp only [AFr.get, reduceIte, Nat.reduceEqDiff])
    refine ⟨H, hE, finB h ?_⟩
    simp [powB, hs, ht]
  · have ht : ¬ e.type = tMem := by simpa [tMem] using ht
    (refine AWp_skip (hK _ _ ?_); clear hK K; apply sR; intro K hK; (iterate 4 (apply s_q; decide; rfl; (simp only [go_sem, g1]; rfl))); apply s_spec; decide; rfl; rfl; (iterate 4 (simp only [go_sem, g1]; rfl)); trivial; (iterate 3 (apply s_spec; decide; rfl; rfl; (iterate 4 (simp only [go_sem, g1]; rfl)); simp [condsOk])); apply s_spec; decide; rfl; rfl; (iterate 4 (simp only [go_sem, g1]; rfl)); trivial; (iterate 2 (apply s_spec; decide; rfl; rfl; (iterate 4 (simp only [go_sem, g1]; rfl)); simp [condsOk])); apply s_pickg; decide; (iterate 8 (simp only [go_sem, g1]; rfl)); simp [condsOk]; trivial; simp [condsOk]; apply s_pick; decide; (iterate 6 (simp only [go_sem, g1]; rfl)); trivial; simp [condsOk]; trivial; apply s_q; decide; rfl; (simp only [go_sem, g1]; rfl); refine s_nil (hK _ _ ?_); clear hK K; apply AWp_ret)
    refine ⟨H, hE, finB h ?_⟩
    simp only [powB, hs, if_neg ht, tPower, Bool.true_and]
    by_cases h1 : e.key = [] <;> simp [h1] <;> congr
end Go.Proofs.YtcpfgjfiacfmoaaGreatDoor
