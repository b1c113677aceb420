/-
  The document's parts of a name, User and IsUser. The plain part: what strings.Cut gives at one byte.
-/
import Derived.Test.YtpdfgmedbphmkaaGreatDoorR4
set_option linter.unusedSimpArgs false
set_option linter.unusedVariables false
set_option maxRecDepth 100000
namespace Go.Proofs.YtpdfgmedbphmkaaGreatDoor
open Go Go.AL
attribute [local irreducible] AOps AWp SOps AE AT ACall AApp

theorem occ_one (t : List UInt8) (c : UInt8) (j : Nat) : Lib.occAt t [c] j = decide (t[j]? = some c) := by
  rw [Lib.occAt]
  have h : (t.drop j)[0]? = t[j]? := by rw [List.getElem?_drop, Nat.add_zero]
  cases hd : t.drop j with
  | nil => rw [hd] at h; rw [← h]; simp
  | cons b r =>
    rw [hd] at h
    rw [← h]
    by_cases e : c = b
    · subst e; simp [List.isPrefixOf]
    · simp [List.isPrefixOf, e, Ne.symm e]
theorem cut_found {w : List UInt8} {c : UInt8} {k : Nat} (h1 : w[k]? = some c) (h2 : ∀ j, j < k → w[j]? ≠ some c) : Lib.cut w [c] = (w.take k, w.drop (k + 1), true) := by
  have hk : k ≤ w.length := Nat.le_of_lt (List.getElem?_eq_some_iff.1 h1).1
  have hi : Lib.index w [c] = (k : Int) := Lib.index_first hk (by rw [occ_one]; simpa using h1) (fun j hj => by rw [occ_one]; simpa using h2 j hj)
  rw [Lib.cut, hi, if_pos (by omega)]
  rfl
theorem cut_none {w : List UInt8} {c : UInt8} (h : ∀ j : Nat, w[j]? ≠ some c) : Lib.cut w [c] = (w, [], false) := by
  have hi : Lib.index w [c] = -1 := by
    rcases Lib.index_spec w [c] with ⟨h1, _⟩ | ⟨i, _, _, h3, _⟩
    · exact h1
    · rw [occ_one] at h3; exact absurd (by simpa using h3) (h i)
  rw [Lib.cut, hi, if_neg (by decide)]
theorem idParts_not {l : List UInt8} (h : hasPre l [64] = false) : idParts [64] l = .tup [.s [], .s [], .v (.bool false)] := by
  have : idCut [64] l = none := by unfold idCut; simp [h]
  rw [idParts, this]
theorem idParts_none {w : List UInt8} (h : ∀ j : Nat, w[j]? ≠ some 58) : idParts [64] (64 :: w) = .tup [.s [], .s [], .v (.bool false)] := by
  have h1 : hasPre (64 :: w) [64] = true := by simp [hasPre]
  have : idCut [64] (64 :: w) = none := by unfold idCut; simp [h1, cut_none h]
  rw [idParts, this]
theorem idParts_at {w : List UInt8} {k : Nat} (h1 : w[k]? = some 58) (h2 : ∀ j, j < k → w[j]? ≠ some 58) : idParts [64] (64 :: w) = if (isLocal (w.take k) && isServer (w.drop (k + 1))) = true then .tup [.s (w.take k), .s (w.drop (k + 1)), .v (.bool true)] else .tup [.s [], .s [], .v (.bool false)] := by
  have h3 : hasPre (64 :: w) [64] = true := by simp [hasPre]
  rw [idParts]
  unfold idCut
  simp only [h3, if_true, Bool.true_and, List.length_singleton, List.drop_succ_cons, List.drop_zero, cut_found h1 h2]
  cases isLocal (w.take k) <;> cases isServer (w.drop (k + 1)) <;> rfl
set_option maxHeartbeats 1000000 in
theorem parts_c (l : List UInt8) (hl : l.length ≤ 4611686018427387904) (H : AHeap) (Kc : AV → AHeap → Prop) (h : Kc (idParts [64] l) H) : ACall X 76 [.v (.int .u8 64), .s l] H Kc := by
  refine ACall_intro Tryz.func76 rfl (by kernel_rfl) (by rw [Tryz.ntmps76]; simp) ?_; rw [Tryz.ntmps76]; simp only [frame0, Nat.reduceAdd]
  (refine AWp_seq_k (fun K hK => ?_); apply s_region; (iterate 3 (apply s_q; decide; rfl; (simp only [go_sem]; rfl))); apply s_nil; simp only [AThen, ABlock]; refine hK _ _ ?_; clear hK K; (iterate 2 (refine AWp_seq_k (fun K hK => ?_))); apply s_region; apply s_q; decide; rfl; (simp only [go_sem]; rfl); apply s_nil; simp only [AThen, ABlock]; refine hK _ _ ?_; clear hK K; apply AWp_block)
  cases l with
  | nil =>
    rw [idParts_not (by decide)] at h
    refine AWp_loop_s (σ := Nat) [0, 1, 7] (fun i => [.v (.int .u8 64), .s [], .v (.int .i64 1)]) (fun _ => H) (fun i => 0) (fun i => True) 0 trivial rfl rfl (fun i hi => ?_)
    simp only [List.zip_cons_cons, List.zip_nil_right]
    ((iterate 2 (refine AWp_seq_k (fun K hK => ?_))); apply s_region; (iterate 5 (apply s_q; decide; rfl; (simp only [go_sem]; rfl))); apply s_spec; decide; rfl; rfl; (simp only [go_sem]; rfl); (simp only [go_sem]; rfl); (simp only [go_sem]; rfl); (simp only [go_sem]; rfl); trivial; apply s_when (av := .v (.int .u8 0)); decide; (simp only [go_sem]; rfl); (simp only [go_sem]; rfl); (simp only [go_sem]; rfl); trivial; (focus (intro hg; first | (cases hg; done) | (simp at hg; done))); (iterate 2 (apply s_spec; decide; rfl; rfl; (simp only [go_sem]; rfl); (simp only [go_sem]; rfl); (simp only [go_sem]; rfl); (simp only [go_sem]; rfl); trivial)); apply s_pick; decide; (simp only [go_sem]; rfl); (simp only [go_sem]; rfl); (simp only [go_sem]; rfl); (simp only [go_sem]; rfl); (simp only [go_sem]; rfl); (simp only [go_sem]; rfl); trivial; trivial; trivial; apply s_nil; simp only [AThen, ABlock]; refine hK _ _ ?_; clear hK K)
    refine cond_split (by simp only [go_sem]; try rfl) (fun hd => ?_) (fun hd => ?_)
    · simp at hd
    (apply AWp_exit; simp only [AThen, ABlock, reduceIte, Nat.reduceEqDiff]; clear hK K; refine hK _ _ ?_; clear hK K; refine AWp_seq_k (fun K hK => ?_); apply s_region; (iterate 3 (apply s_q; decide; rfl; (simp only [go_sem]; rfl))); apply s_nil; simp only [AThen, ABlock]; refine hK _ _ ?_; clear hK K; apply AWp_ret)
    exact h
  | cons b w =>
    by_cases hb : b = 64
    · subst hb
      have hwl : w.length + 1 ≤ 4611686018427387904 := hl
      refine AWp_loop_s (σ := Nat) [0, 1, 7] (fun k => [.v (.int .u8 64), .s (64 :: w), .v (.int .i64 ((k : Int) + 1))]) (fun _ => H) (fun k => w.length - k) (fun k => k ≤ w.length ∧ ∀ j, j < k → w[j]? ≠ some 58) 0 ⟨Nat.zero_le _, fun j hj => by omega⟩ rfl rfl (fun k hk => ?_)
      obtain ⟨hk, hno⟩ := hk
      simp only [List.zip_cons_cons, List.zip_nil_right]
      ((iterate 2 (refine AWp_seq_k (fun K hK => ?_))); apply s_region; (iterate 5 (apply s_q; decide; rfl; (simp only [go_sem]; rfl))); apply s_spec; decide; rfl; rfl; (simp only [go_sem]; rfl); (simp only [go_sem]; rfl); (simp only [go_sem]; rfl); (simp only [go_sem]; rfl); trivial; apply s_when; decide; (simp only [go_sem]; rfl); (simp only [go_sem]; rfl); (simp only [go_sem]; rfl); simp [condsOk]; (intro hg; simp only [go_sem]; try rfl); apply s_spec; decide; rfl; rfl; (simp only [go_sem]; rfl); (simp only [go_sem]; rfl); (simp only [go_sem]; rfl); (simp only [go_sem]; rfl); trivial; apply s_spec; decide; rfl; rfl; (simp only [go_sem]; rfl); (simp only [go_sem]; rfl); (simp only [go_sem]; rfl); (simp only [go_sem]; rfl); simp [condsOk]; apply s_pick; decide; (simp only [go_sem]; rfl); (simp only [go_sem]; rfl); (simp only [go_sem]; rfl); (simp only [go_sem]; rfl); (simp only [go_sem]; rfl); (simp only [go_sem]; rfl); trivial; simp [condsOk]; trivial; apply s_nil; simp only [AThen, ABlock]; refine hK _ _ ?_; clear hK K)
      have hw1 : IntKind.i64.wrap ((k : Int) + 1 + 1) = ((k + 1 : Nat) : Int) + 1 := by rw [wrap64 (by omega)]; omega
      refine cond_split (by simp only [go_sem]; try rfl) (fun hd => ?_) (fun hd => ?_)
      · have hlt : k < w.length := by
          by_cases hlt : k < w.length
          · exact hlt
          · simp at hd; omega
        obtain ⟨c, hm⟩ := getc hlt
        have hgi : (64 :: w)[((k : Int) + 1).toNat]? = some c := by
          rw [show ((k : Int) + 1).toNat = k + 1 by omega, List.getElem?_cons_succ]; exact hm
        (apply AWp_skip; simp only [AThen, ABlock]; refine hK _ _ ?_; clear hK K; refine AWp_seq_k (fun K hK => ?_); apply AWp_block; refine AWp_seq_k (fun K hK => ?_); apply s_region; (iterate 4 (apply s_q; decide; rfl; (simp only [go_sem, hgi]; rfl))); apply s_nil; simp only [AThen, ABlock]; refine hK _ _ ?_; clear hK K)
        refine cond_split (by simp only [go_sem]; try rfl) (fun hq => ?_) (fun hq => ?_)
        · have hc : c = 58 := by
            have : c.toNat = 58 := by simp at hq; omega
            exact UInt8.toNat_inj.1 (by rw [this]; rfl)
          subst hc
          rw [idParts_at hm hno] at h
          have z1 : (0 : Int) ≤ (k : Int) + 1 := by omega
          have z2 : ((k : Int) + 1).toNat = k + 1 := by omega
          have z3 : 1 ≤ k + 1 := by omega
          have z4 : k + 1 ≤ w.length + 1 := by omega
          have z5 : (0 : Int) ≤ ((k + 1 : Nat) : Int) + 1 := by omega
          have z6 : (((k + 1 : Nat) : Int) + 1).toNat = k + 2 := by omega
          have z7 : k + 2 ≤ w.length + 1 := by omega
          have z8 : List.drop (k + 2) (List.take (w.length + 1) (64 :: w)) = w.drop (k + 1) := by rw [List.take_of_length_le (by simp)]; rfl
          ((iterate 2 (refine AWp_seq_k (fun K hK => ?_))); apply s_region; (iterate 3 (apply s_q; decide; rfl; (simp only [go_sem, hw1, z1, z2, z3, z4, z5, z6, z7, List.length_cons]; rfl))); apply s_call; decide; (simp only [go_sem, hw1, z1, z2, z3, z4, z5, z6, z7, List.length_cons]; rfl); (simp only [go_sem, hw1, z1, z2, z3, z4, z5, z6, z7, List.length_cons]; rfl); apply rlocal4_c _ (by simp; omega); apply s_q; decide; rfl; (simp only [go_sem, hw1, z1, z2, z3, z4, z5, z6, z7, List.length_cons]; rfl); (iterate 2 (apply s_spec; decide; rfl; rfl; (simp only [go_sem, hw1, z1, z2, z3, z4, z5, z6, z7, List.length_cons]; rfl); (simp only [go_sem, hw1, z1, z2, z3, z4, z5, z6, z7, List.length_cons]; rfl); (simp only [go_sem, hw1, z1, z2, z3, z4, z5, z6, z7, List.length_cons]; rfl); (simp only [go_sem, hw1, z1, z2, z3, z4, z5, z6, z7, List.length_cons]; rfl); trivial)); apply s_spec; decide; rfl; rfl; (simp only [go_sem, hw1, z1, z2, z3, z4, z5, z6, z7, List.length_cons]; rfl); (simp only [go_sem, hw1, z1, z2, z3, z4, z5, z6, z7, List.length_cons]; rfl); (simp only [go_sem, hw1, z1, z2, z3, z4, z5, z6, z7, List.length_cons]; rfl); (simp only [go_sem, hw1, z1, z2, z3, z4, z5, z6, z7, List.length_cons]; rfl); simp [condsOk]; apply s_when; decide; (simp only [go_sem, hw1, z1, z2, z3, z4, z5, z6, z7, List.length_cons]; rfl); (simp only [go_sem, hw1, z1, z2, z3, z4, z5, z6, z7, List.length_cons]; rfl); (simp only [go_sem, hw1, z1, z2, z3, z4, z5, z6, z7, List.length_cons]; rfl); simp [condsOk]; (intro hg; refine (show _ = some (AV.s (w.drop (k + 1))) from ?_); (focus (simp only [go_sem, z5, z6, z7, List.take_length, List.length_cons, Nat.le_refl]; done))); apply s_gpure; decide; (simp only [go_sem, hw1, z1, z2, z3, z4, z5, z6, z7, List.length_cons]; rfl); (simp only [go_sem, hw1, z1, z2, z3, z4, z5, z6, z7, List.length_cons]; rfl); (simp only [go_sem, hw1, z1, z2, z3, z4, z5, z6, z7, List.length_cons]; rfl); simp [condsOk]; (simp only [go_sem, hw1, z1, z2, z3, z4, z5, z6, z7, List.length_cons]; rfl); (simp only [go_sem, hw1, z1, z2, z3, z4, z5, z6, z7, List.length_cons]; rfl); (apply rserver4_c _ (by simp; omega); exact ⟨rfl, rfl⟩); apply s_pick; decide; (simp only [go_sem, hw1, z1, z2, z3, z4, z5, z6, z7, List.length_cons]; rfl); (simp only [go_sem, hw1, z1, z2, z3, z4, z5, z6, z7, List.length_cons]; rfl); (simp only [go_sem, hw1, z1, z2, z3, z4, z5, z6, z7, List.length_cons]; rfl); (simp only [go_sem, hw1, z1, z2, z3, z4, z5, z6, z7, List.length_cons]; rfl); (simp only [go_sem, hw1, z1, z2, z3, z4, z5, z6, z7, List.length_cons]; rfl); (simp only [go_sem, hw1, z1, z2, z3, z4, z5, z6, z7, List.length_cons]; rfl); trivial; simp [condsOk]; trivial; apply s_nil; simp only [AThen, ABlock]; refine hK _ _ ?_; clear hK K)
          refine cond_split (by simp only [go_sem]; try rfl) (fun hp => ?_) (fun hp => ?_)
          · have hp' : (isLocal (w.take k) && isServer (w.drop (k + 1))) = true := by
              revert hp; cases isLocal (w.take k) <;> cases isServer (w.drop (k + 1)) <;> simp
            rw [if_pos hp'] at h
            (refine AWp_seq_k (fun K hK => ?_))
            apply AWp_drawA [0, 1, 2, 3, 4, 5, 6, 7, 8, 9] [] 0 (by exact mixed); kernel_rfl; (simp only [go_sem]; rfl); (simp only [go_sem]; rfl)
            ((iterate 10 (apply e_q; decide; (simp only [go_sem, hw1, z1, z2, z3, z4, z5, z6, z7, List.take_length, List.length_cons, Nat.le_refl]; rfl))); apply e_nil; apply t_nil; simp only [AThen, ABlock]; refine hK _ _ ?_; clear hK K; apply AWp_ret; simp only [AThen, ABlock]; apply end_ret; rfl; simp only [AFr.get, reduceIte, Nat.reduceEqDiff])
            exact h
          · have hp' : ¬ (isLocal (w.take k) && isServer (w.drop (k + 1))) = true := by
              revert hp; cases isLocal (w.take k) <;> cases isServer (w.drop (k + 1)) <;> simp
            rw [if_neg hp'] at h
            (apply AWp_skip; simp only [AThen, ABlock]; refine hK _ _ ?_; clear hK K; refine AWp_seq_k (fun K hK => ?_); apply s_region; (iterate 3 (apply s_q; decide; rfl; (simp only [go_sem]; rfl))); apply s_nil; simp only [AThen, ABlock]; refine hK _ _ ?_; clear hK K; apply AWp_ret; simp only [AThen, ABlock]; apply end_ret; rfl; simp only [AFr.get, reduceIte, Nat.reduceEqDiff])
            exact h
        · have hc : c ≠ 58 := by rintro rfl; simp at hq
          (apply AWp_skip; simp only [AThen, ABlock]; refine hK _ _ ?_; clear hK K; apply s_region; (iterate 3 (apply s_q; decide; rfl; (simp only [go_sem, hw1]; rfl))); apply s_nil; simp only [AThen, ABlock])
          refine ⟨k + 1, by omega, ⟨by omega, fun j hj => ?_⟩, ?_, by trivial⟩
          · rcases Nat.lt_succ_iff_lt_or_eq.1 hj with hj | rfl
            · exact hno j hj
            · rw [hm]; simpa using hc
          · simp only [getAll, List.map_cons, List.map_nil, AFr.get, reduceIte, Nat.reduceEqDiff, hw1]
            try rfl
      have hge : w.length ≤ k := by
        by_cases hlt : k < w.length
        · simp at hd; omega
        · omega
      rw [idParts_none (fun j => by
        by_cases hj : j < k
        · exact hno j hj
        · rw [List.getElem?_eq_none (by omega)]; simp)] at h
      (apply AWp_exit; simp only [AThen, ABlock, reduceIte, Nat.reduceEqDiff]; clear hK K; refine hK _ _ ?_; clear hK K; refine AWp_seq_k (fun K hK => ?_); apply s_region; (iterate 3 (apply s_q; decide; rfl; (simp only [go_sem]; rfl))); apply s_nil; simp only [AThen, ABlock]; refine hK _ _ ?_; clear hK K; apply AWp_ret)
      exact h
    · rw [idParts_not (by simp [hasPre, hb])] at h
      refine AWp_loop_s (σ := Nat) [0, 1, 7] (fun i => [.v (.int .u8 64), .s (b :: w), .v (.int .i64 1)]) (fun _ => H) (fun i => 0) (fun i => True) 0 trivial rfl rfl (fun i hi => ?_)
      simp only [List.zip_cons_cons, List.zip_nil_right]
      ((iterate 2 (refine AWp_seq_k (fun K hK => ?_))); apply s_region; (iterate 5 (apply s_q; decide; rfl; (simp only [go_sem]; rfl))); apply s_spec; decide; rfl; rfl; (simp only [go_sem]; rfl); (simp only [go_sem]; rfl); (simp only [go_sem]; rfl); (simp only [go_sem]; rfl); trivial; apply s_when; decide; (simp only [go_sem]; rfl); (simp only [go_sem]; rfl); (simp only [go_sem]; rfl); simp [condsOk]; (intro hg; simp only [go_sem]; try rfl); apply s_spec; decide; rfl; rfl; (simp only [go_sem]; rfl); (simp only [go_sem]; rfl); (simp only [go_sem]; rfl); (simp only [go_sem]; rfl); trivial; apply s_spec; decide; rfl; rfl; (simp only [go_sem]; rfl); (simp only [go_sem]; rfl); (simp only [go_sem]; rfl); (simp only [go_sem]; rfl); simp [condsOk]; apply s_pick; decide; (simp only [go_sem]; rfl); (simp only [go_sem]; rfl); (simp only [go_sem]; rfl); (simp only [go_sem]; rfl); (simp only [go_sem]; rfl); (simp only [go_sem]; rfl); trivial; simp [condsOk]; trivial; apply s_nil; simp only [AThen, ABlock]; refine hK _ _ ?_; clear hK K)
      refine cond_split (by simp only [go_sem]; try rfl) (fun hd => ?_) (fun hd => ?_)
      · exfalso
        have : b.toNat = 64 := by
          by_cases hlt : 0 < w.length
          · simp at hd; omega
          · simp at hd; omega
        exact hb (UInt8.toNat_inj.1 (by rw [this]; rfl))
      (apply AWp_exit; simp only [AThen, ABlock, reduceIte, Nat.reduceEqDiff]; clear hK K; refine hK _ _ ?_; clear hK K; refine AWp_seq_k (fun K hK => ?_); apply s_region; (iterate 3 (apply s_q; decide; rfl; (simp only [go_sem]; rfl))); apply s_nil; simp only [AThen, ABlock]; refine hK _ _ ?_; clear hK K; apply AWp_ret)
      exact h
theorem ruser4_c (l : List UInt8) (hl : l.length ≤ 4611686018427387904) (H : AHeap) (K : AV → AHeap → Prop) (h : K (idParts [64] l) H) : ACall X 63 [.s l] H K := by
  obtain ⟨a, b, c, e⟩ : ∃ a b c, idParts [64] l = .tup [.s a, .s b, .v (.bool c)] := by
    unfold idParts; split <;> exact ⟨_, _, _, rfl⟩
  refine ACall_intro Tryz.func63 rfl (by kernel_rfl) (by rw [Tryz.ntmps63]; simp) ?_; rw [Tryz.ntmps63]; simp only [frame0, Nat.reduceAdd]
  (refine AWp_seq_k (fun K hK => ?_); apply s_region; (iterate 3 (apply s_q; decide; rfl; (simp only [go_sem]; rfl))); apply s_nil; simp only [AThen, ABlock]; refine hK _ _ ?_; clear hK K; refine AWp_seq_k (fun K hK => ?_); apply s_region; apply s_q; decide; rfl; (simp only [go_sem]; rfl); apply s_call; decide; (simp only [go_sem]; rfl); (simp only [go_sem]; rfl); apply parts_c _ hl)
  rw [e] at h ⊢
  ((iterate 6 (apply s_q; decide; rfl; (simp only [go_sem]; rfl))); apply s_nil; simp only [AThen, ABlock]; refine hK _ _ ?_; clear hK K; apply AWp_ret)
  exact h
theorem risUser4_c (l : List UInt8) (hl : l.length ≤ 4611686018427387904) (H : AHeap) (K : AV → AHeap → Prop) (h : K (.v (.bool (match idCut [64] l with | some _ => true | none => false))) H) : ACall X 48 [.s l] H K := by
  obtain ⟨a, b, c, e, e2⟩ : ∃ a b c, idParts [64] l = .tup [.s a, .s b, .v (.bool c)] ∧ (match idCut [64] l with | some _ => true | none => false) = c := by
    rw [idParts]
    cases idCut [64] l with
    | none => exact ⟨_, _, _, rfl, rfl⟩
    | some p => exact ⟨_, _, _, rfl, rfl⟩
  rw [e2] at h
  refine ACall_intro Tryz.func48 rfl (by kernel_rfl) (by rw [Tryz.ntmps48]; simp) ?_; rw [Tryz.ntmps48]; simp only [frame0, Nat.reduceAdd]
  (refine AWp_seq_k (fun K hK => ?_); apply s_region; apply s_q; decide; rfl; (simp only [go_sem]; rfl); apply s_nil; simp only [AThen, ABlock]; refine hK _ _ ?_; clear hK K; refine AWp_seq_k (fun K hK => ?_); apply s_region; apply s_q; decide; rfl; (simp only [go_sem]; rfl); apply s_call; decide; (simp only [go_sem]; rfl); (simp only [go_sem]; rfl); apply ruser4_c _ hl; apply s_q; decide; rfl; (simp only [go_sem]; rfl))
  rw [e]
  ((iterate 6 (apply s_q; decide; rfl; (simp only [go_sem]; rfl))); apply s_nil; simp only [AThen, ABlock]; refine hK _ _ ?_; clear hK K; refine AWp_seq_k (fun K hK => ?_); apply s_region; (iterate 2 (apply s_q; decide; rfl; (simp only [go_sem]; rfl))); apply s_nil; simp only [AThen, ABlock]; refine hK _ _ ?_; clear hK K; apply AWp_ret)
  exact h
end Go.Proofs.YtpdfgmedbphmkaaGreatDoor
