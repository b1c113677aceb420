/-
  The document's letters: Letter, Rune, Bad. Contracts.
-/
import Derived.Test.YtpdfgmedbphmkaaGreatDoorCB
import Derived.Test.YtpdfgmedbphmkaaGreatDoorAL4
set_option linter.unusedSimpArgs false
set_option linter.unusedVariables false
set_option maxRecDepth 100000
namespace Go.Proofs.YtpdfgmedbphmkaaGreatDoor
open Go Go.AL
attribute [local irreducible] AOps AWp SOps AE AT ACall AApp

theorem and_mask {x k : Nat} (hx : x < 9223372036854775808) (hk : k < 63) : IntKind.i64.wrap (((BitVec.ofInt IntKind.i64.bits (x : Int) &&& BitVec.ofInt IntKind.i64.bits (((2 ^ k - 1 : Nat)) : Int)).toNat : Nat) : Int) = ((x % 2 ^ k : Nat) : Int) := by
  have h1 : (2 ^ k : Nat) ≤ 2 ^ 62 := Nat.pow_le_pow_right (by decide) (by omega)
  have e : ((BitVec.ofInt IntKind.i64.bits (x : Int) &&& BitVec.ofInt IntKind.i64.bits (((2 ^ k - 1 : Nat)) : Int)).toNat : Nat) = x % 2 ^ k := by
    show (BitVec.ofInt 64 (x : Int) &&& BitVec.ofInt 64 (((2 ^ k - 1 : Nat)) : Int)).toNat = _
    rw [BitVec.ofInt_natCast, BitVec.ofInt_natCast, BitVec.toNat_and, BitVec.toNat_ofNat, BitVec.toNat_ofNat, Nat.mod_eq_of_lt (by omega), Nat.mod_eq_of_lt (by omega), Nat.and_two_pow_sub_one_eq_mod]
  rw [e]
  have h2 : x % 2 ^ k < 2 ^ k := Nat.mod_lt _ (Nat.two_pow_pos k)
  exact wrap64 (by omega)
theorem or_low {x y : Nat} (hx : x < 9000000000000000) (hy : y < 64) : IntKind.i64.wrap (((BitVec.ofInt 64 ((x * 64 : Nat) : Int) ||| BitVec.ofInt 64 (y : Int)).toNat : Nat) : Int) = ((x * 64 + y : Nat) : Int) := by
  have e : ((BitVec.ofInt 64 ((x * 64 : Nat) : Int) ||| BitVec.ofInt 64 (y : Int)).toNat : Nat) = x * 64 + y := by
    rw [BitVec.ofInt_natCast, BitVec.ofInt_natCast, BitVec.toNat_or, BitVec.toNat_ofNat, BitVec.toNat_ofNat, Nat.mod_eq_of_lt (by omega), Nat.mod_eq_of_lt (by omega)]
    have := Nat.two_pow_add_eq_or_of_lt (i := 6) (b := y) (by omega) x
    rw [show x * 64 = 2 ^ 6 * x by omega, ← this]
  rw [e]
  exact wrap64 (by omega)
theorem cont_u8 (b : UInt8) : decide (IntKind.u8.wrap (((BitVec.ofInt 8 (b.toNat : Int) &&& BitVec.ofInt 8 192).toNat : Nat) : Int) = 128) = contB b.toNat := by
  have h : ∀ n : Fin 256, decide (IntKind.u8.wrap (((BitVec.ofInt 8 ((n.val : Nat) : Int) &&& BitVec.ofInt 8 192).toNat : Nat) : Int) = 128) = contB n.val := by decide +kernel
  exact h ⟨b.toNat, b.toNat_lt⟩
theorem low_u8 (b : UInt8) : IntKind.u8.wrap (((BitVec.ofInt 8 (b.toNat : Int) &&& BitVec.ofInt 8 63).toNat : Nat) : Int) = ((b.toNat % 64 : Nat) : Int) := by
  have h : ∀ n : Fin 256, IntKind.u8.wrap (((BitVec.ofInt 8 ((n.val : Nat) : Int) &&& BitVec.ofInt 8 63).toNat : Nat) : Int) = ((n.val % 64 : Nat) : Int) := by decide +kernel
  exact h ⟨b.toNat, b.toNat_lt⟩

def letB (n : Int) : Bool := decide (0 ≤ n) && decide (n ≤ 1114111) && (decide (n < 55296) || decide (57343 < n))
theorem letter_c (n : Int) (H : AHeap) (K : AV → AHeap → Prop) (h : K (.v (.bool (letB n))) H) : ACall X 98 [.v (.int .i64 n)] H K := by
  refine ACall_intro Tryz.func98 rfl (by kernel_rfl) (by rw [Tryz.ntmps98]; simp) ?_; rw [Tryz.ntmps98]; simp only [frame0, Nat.reduceAdd]
  (refine AWp_seq_k (fun K hK => ?_); apply s_region; apply s_q; decide; rfl; (simp only [go_sem]; rfl); apply s_nil; simp only [AThen, ABlock]; refine hK _ _ ?_; clear hK K; refine AWp_seq_k (fun K hK => ?_); apply s_region; (iterate 3 (apply s_q; decide; rfl; (simp only [go_sem]; rfl))); apply s_spec; decide; rfl; rfl; (simp only [go_sem]; rfl); (simp only [go_sem]; rfl); (simp only [go_sem]; rfl); (simp only [go_sem]; rfl); trivial; apply s_spec; decide; rfl; rfl; (simp only [go_sem]; rfl); (simp only [go_sem]; rfl); (simp only [go_sem]; rfl); (simp only [go_sem]; rfl); simp [condsOk]; apply s_pick; decide; (simp only [go_sem]; rfl); (simp only [go_sem]; rfl); (simp only [go_sem]; rfl); (simp only [go_sem]; rfl); (simp only [go_sem]; rfl); (simp only [go_sem]; rfl); trivial; simp [condsOk]; trivial; apply s_q; decide; rfl; (simp only [go_sem]; rfl); apply s_spec; decide; rfl; rfl; (simp only [go_sem]; rfl); (simp only [go_sem]; rfl); (simp only [go_sem]; rfl); (simp only [go_sem]; rfl); trivial; (iterate 2 (apply s_spec; decide; rfl; rfl; (simp only [go_sem]; rfl); (simp only [go_sem]; rfl); (simp only [go_sem]; rfl); (simp only [go_sem]; rfl); simp [condsOk])); apply s_spec; decide; rfl; rfl; (simp only [go_sem]; rfl); (simp only [go_sem]; rfl); (simp only [go_sem]; rfl); (simp only [go_sem]; rfl); trivial; apply s_spec; decide; rfl; rfl; (simp only [go_sem]; rfl); (simp only [go_sem]; rfl); (simp only [go_sem]; rfl); (simp only [go_sem]; rfl); simp [condsOk]; apply s_pickg; decide; (simp only [go_sem]; rfl); (simp only [go_sem]; rfl); (simp only [go_sem]; rfl); (simp only [go_sem]; rfl); (simp only [go_sem]; rfl); (simp only [go_sem]; rfl); (simp only [go_sem]; rfl); (simp only [go_sem]; rfl); simp [condsOk]; trivial; simp [condsOk]; apply s_pick; decide; (simp only [go_sem]; rfl); (simp only [go_sem]; rfl); (simp only [go_sem]; rfl); (simp only [go_sem]; rfl); (simp only [go_sem]; rfl); (simp only [go_sem]; rfl); trivial; simp [condsOk]; trivial; apply s_q; decide; rfl; (simp only [go_sem]; rfl); apply s_nil; simp only [AThen, ABlock]; refine hK _ _ ?_; clear hK K; apply AWp_ret)
  refine end_ret (av := .v (.bool (letB n))) (by
    show resAV X.P _ _ [.tmp 2] = _
    by_cases h1 : 0 ≤ n <;> by_cases h2 : n ≤ 1114111 <;> by_cases h3 : n < 55296 <;> simp [go_sem, letB, h1, h2, h3]) h

def accN (m : List UInt8) (c0 : Nat) : Nat → Nat
  | 0 => c0
  | k + 1 => accN m c0 k * 64 + (m.getD (k + 1) 0).toNat % 64
def okN (m : List UInt8) (many : Nat) : Prop := ∀ k, k < many → k + 1 < m.length ∧ contB (m.getD (k + 1) 0).toNat = true
/-- what the bytes behind the first one say -/
def runeOf (m : List UInt8) (many least c0 : Nat) : Prop := (okN m many → docL m = if accN m c0 many < least ∨ letB (accN m c0 many : Nat) = false then 0 else many + 1) ∧ (¬ okN m many → docL m = 0)
theorem letB_true {n : Nat} (h : n ≤ 1114111) (h2 : n < 55296 ∨ 57343 < n) : letB (n : Int) = true := by
  rw [letB]
  rcases h2 with h2 | h2
  · rw [decide_eq_true (by omega), decide_eq_true (by omega), decide_eq_true (show (n : Int) < 55296 by omega)]; rfl
  · rw [decide_eq_true (by omega), decide_eq_true (by omega), decide_eq_true (show (57343 : Int) < n by omega)]; simp
theorem letB_false {n : Nat} (h : 1114111 < n ∨ 55296 ≤ n ∧ n ≤ 57343) : letB (n : Int) = false := by
  rw [letB]
  rcases h with h | h
  · rw [decide_eq_false (show ¬ ((n : Int) ≤ 1114111) by omega)]; simp
  · rw [decide_eq_false (show ¬ ((n : Int) < 55296) by omega), decide_eq_false (show ¬ ((57343 : Int) < n) by omega)]; simp
theorem rune1 {m : List UInt8} (hm : m ≠ []) (h1 : 192 ≤ (m.getD 0 0).toNat) (h2 : (m.getD 0 0).toNat < 224) : runeOf m 1 128 ((m.getD 0 0).toNat % 32) := by
  have hl : 1 ≤ m.length := List.length_pos_iff.2 hm
  unfold runeOf docL
  rw [docN2 h1 h2]
  refine ⟨fun h => ?_, fun h => ?_⟩
  · obtain ⟨k1, k2⟩ := h 0 (by decide)
    show _ = if (m.getD 0 0).toNat % 32 * 64 + (m.getD 1 0).toNat % 64 < 128 ∨ letB (((m.getD 0 0).toNat % 32 * 64 + (m.getD 1 0).toNat % 64 : Nat) : Int) = false then 0 else 2
    have k2 : contB (m.getD 1 0).toNat = true := k2
    generalize (m.getD 0 0).toNat = b0 at *
    generalize (m.getD 1 0).toNat = b1 at *
    rw [letB_true (by omega) (by omega), k2]
    simp only [Bool.true_eq_false, or_false, false_or]
    by_cases hv : b0 % 32 * 64 + b1 % 64 < 128
    · rw [if_pos (.inr hv), if_pos hv]
    · rw [if_neg (by omega), if_neg hv]
  · rw [if_pos]
    by_cases hc : m.length < 2
    · exact .inl hc
    · by_cases hd : contB (m.getD 1 0).toNat = false
      · exact .inr (.inl hd)
      · exfalso; refine h fun k hk => ?_
        obtain rfl : k = 0 := by omega
        exact ⟨by omega, by simpa using hd⟩
theorem rune2 {m : List UInt8} (hm : m ≠ []) (h1 : 224 ≤ (m.getD 0 0).toNat) (h2 : (m.getD 0 0).toNat < 240) : runeOf m 2 2048 ((m.getD 0 0).toNat % 16) := by
  have hl : 1 ≤ m.length := List.length_pos_iff.2 hm
  unfold runeOf docL
  rw [docN3 h1 h2]
  refine ⟨fun h => ?_, fun h => ?_⟩
  · obtain ⟨j1, j2⟩ := h 0 (by decide)
    obtain ⟨k1, k2⟩ := h 1 (by decide)
    show _ = if ((m.getD 0 0).toNat % 16 * 64 + (m.getD 1 0).toNat % 64) * 64 + (m.getD 2 0).toNat % 64 < 2048 ∨ letB ((((m.getD 0 0).toNat % 16 * 64 + (m.getD 1 0).toNat % 64) * 64 + (m.getD 2 0).toNat % 64 : Nat) : Int) = false then 0 else 3
    have j2 : contB (m.getD 1 0).toNat = true := j2
    have k2 : contB (m.getD 2 0).toNat = true := k2
    generalize (m.getD 0 0).toNat = b0 at *
    generalize (m.getD 1 0).toNat = b1 at *
    generalize (m.getD 2 0).toNat = b2 at *
    rw [j2, k2]
    simp only [Bool.true_eq_false, or_false, false_or]
    by_cases hv : (b0 % 16 * 64 + b1 % 64) * 64 + b2 % 64 < 2048
    · rw [if_pos (.inr (.inr (.inl hv))), if_pos (.inl hv)]
    · by_cases hw : 55296 ≤ (b0 % 16 * 64 + b1 % 64) * 64 + b2 % 64 ∧ (b0 % 16 * 64 + b1 % 64) * 64 + b2 % 64 ≤ 57343
      · rw [letB_false (.inr hw), if_pos (.inr (.inr (.inr hw))), if_pos (.inr rfl)]
      · rw [letB_true (by omega) (by omega), if_neg (by omega), if_neg (by rintro (h | h); exact hv h; cases h)]
  · rw [if_pos]
    by_cases hc : m.length < 2
    · exact .inl hc
    · by_cases hd : contB (m.getD 1 0).toNat = false
      · exact .inr (.inl hd)
      · by_cases hc3 : m.length < 3
        · exact .inr (.inr (.inl hc3))
        · by_cases hd2 : contB (m.getD 2 0).toNat = false
          · exact .inr (.inr (.inr (.inl hd2)))
          · exfalso; refine h fun k hk => ?_
            rcases (by omega : k = 0 ∨ k = 1) with rfl | rfl
            · exact ⟨by omega, by simpa using hd⟩
            · exact ⟨by omega, by simpa using hd2⟩
theorem rune3 {m : List UInt8} (hm : m ≠ []) (h1 : 240 ≤ (m.getD 0 0).toNat) (h2 : (m.getD 0 0).toNat < 248) : runeOf m 3 65536 ((m.getD 0 0).toNat % 8) := by
  have hl : 1 ≤ m.length := List.length_pos_iff.2 hm
  unfold runeOf docL
  rw [docN4 h1 h2]
  refine ⟨fun h => ?_, fun h => ?_⟩
  · obtain ⟨i1, i2⟩ := h 0 (by decide)
    obtain ⟨j1, j2⟩ := h 1 (by decide)
    obtain ⟨k1, k2⟩ := h 2 (by decide)
    show _ = if (((m.getD 0 0).toNat % 8 * 64 + (m.getD 1 0).toNat % 64) * 64 + (m.getD 2 0).toNat % 64) * 64 + (m.getD 3 0).toNat % 64 < 65536 ∨ letB (((((m.getD 0 0).toNat % 8 * 64 + (m.getD 1 0).toNat % 64) * 64 + (m.getD 2 0).toNat % 64) * 64 + (m.getD 3 0).toNat % 64 : Nat) : Int) = false then 0 else 4
    have i2 : contB (m.getD 1 0).toNat = true := i2
    have j2 : contB (m.getD 2 0).toNat = true := j2
    have k2 : contB (m.getD 3 0).toNat = true := k2
    generalize (m.getD 0 0).toNat = b0 at *
    generalize (m.getD 1 0).toNat = b1 at *
    generalize (m.getD 2 0).toNat = b2 at *
    generalize (m.getD 3 0).toNat = b3 at *
    rw [i2, j2, k2]
    simp only [Bool.true_eq_false, or_false, false_or]
    by_cases hv : ((b0 % 8 * 64 + b1 % 64) * 64 + b2 % 64) * 64 + b3 % 64 < 65536
    · rw [if_pos (.inr (.inr (.inr (.inl hv)))), if_pos (.inl hv)]
    · by_cases hw : 1114111 < ((b0 % 8 * 64 + b1 % 64) * 64 + b2 % 64) * 64 + b3 % 64
      · rw [letB_false (.inl hw), if_pos (.inr (.inr (.inr (.inr hw)))), if_pos (.inr rfl)]
      · rw [letB_true (by omega) (by omega), if_neg (by omega), if_neg (by rintro (h | h); exact hv h; cases h)]
  · rw [if_pos]
    by_cases hc : m.length < 2
    · exact .inl hc
    · by_cases hd : contB (m.getD 1 0).toNat = false
      · exact .inr (.inl hd)
      · by_cases hc3 : m.length < 3
        · exact .inr (.inr (.inl hc3))
        · by_cases hd2 : contB (m.getD 2 0).toNat = false
          · exact .inr (.inr (.inr (.inl hd2)))
          · by_cases hc4 : m.length < 4
            · exact .inr (.inr (.inr (.inr (.inl hc4))))
            · by_cases hd3 : contB (m.getD 3 0).toNat = false
              · exact .inr (.inr (.inr (.inr (.inr (.inl hd3)))))
              · exfalso; refine h fun k hk => ?_
                rcases (by omega : k = 0 ∨ k = 1 ∨ k = 2) with rfl | rfl | rfl
                · exact ⟨by omega, by simpa using hd⟩
                · exact ⟨by omega, by simpa using hd2⟩
                · exact ⟨by omega, by simpa using hd3⟩
theorem rune_c (l : List UInt8) (i0 : Nat) (hi : i0 < l.length) (hl : l.length ≤ 4611686018427387904) (H : AHeap) (Kc : AV → AHeap → Prop) (h : ∀ c : Int, Kc (.tup [.v (.int .i64 c), .v (.int .i64 ((docL (l.drop i0) : Nat) : Int))]) H) : ACall X 75 [.s l, .v (.int .i64 i0)] H Kc := by
  obtain ⟨b0, hb0⟩ := gete hi
  obtain ⟨m, hm⟩ : ∃ m, m = l.drop i0 := ⟨_, rfl⟩
  have hm0 : (m.getD 0 0) = b0 := by rw [hm, List.getD_eq_getElem?_getD, List.getElem?_drop]; simp [hb0]
  have hml : m.length = l.length - i0 := by rw [hm, List.length_drop]
  have hne : m ≠ [] := List.length_pos_iff.1 (by omega)
  rw [← hm] at h
  refine ACall_intro Tryz.func75 rfl (by kernel_rfl) (by rw [Tryz.ntmps75]; simp) ?_; rw [Tryz.ntmps75]; simp only [frame0, Nat.reduceAdd]
  have hw0 : IntKind.i64.wrap (b0.toNat : Int) = (b0.toNat : Int) := by have := b0.toNat_lt; exact wrap64 (by omega)
  have hlt := b0.toNat_lt
  (refine AWp_seq_k (fun K hK => ?_); apply s_region; (iterate 2 (apply s_q; decide; rfl; (simp only [go_sem, hb0, hw0]; rfl))); apply s_nil; simp only [AThen, ABlock]; refine hK _ _ ?_; clear hK K; refine AWp_seq_k (fun K hK => ?_); apply s_region; (iterate 5 (apply s_q; decide; rfl; (simp only [go_sem, hb0, hw0]; rfl))); apply s_nil; simp only [AThen, ABlock]; refine hK _ _ ?_; clear hK K; (iterate 2 (refine AWp_seq_k (fun K hK => ?_))); apply s_region; (iterate 2 (apply s_q; decide; rfl; (simp only [go_sem, hb0, hw0]; rfl))); apply s_nil; simp only [AThen, ABlock]; refine hK _ _ ?_; clear hK K)
  refine cond_split (by simp only [go_sem]; try rfl) (fun hc => ?_) (fun hc => ?_)
  · have hc' : b0.toNat < 128 := by simp at hc; omega
    have e : docL m = 1 := by unfold docL docN; rw [hm0, if_pos hc']
    rw [e] at h
    (refine AWp_seq_k (fun K hK => ?_); apply s_region; (iterate 3 (apply s_q; decide; rfl; (simp only [go_sem]; rfl))); apply s_nil; simp only [AThen, ABlock]; refine hK _ _ ?_; clear hK K; apply AWp_ret; simp only [AThen, ABlock]; apply end_ret; rfl; simp only [AFr.get, reduceIte, Nat.reduceEqDiff])
    exact h _
  have hc' : 128 ≤ b0.toNat := by simp at hc; omega
  apply AWp_skip; simp only [AThen, ABlock]; refine hK _ _ ?_; clear hK K
  refine AWp_seq_k (fun K hK => ?_); apply s_region
  ((iterate 2 (apply s_q; decide; rfl; (simp only [go_sem]; rfl))))
  apply s_nil; simp only [AThen, ABlock]; refine hK _ _ ?_; clear hK K
  refine AWp_seq_k (fun K0 hK0 => ?_)
  have hgo : ∀ (many least c0 : Nat), many ≤ 3 → least ≤ 100000 → c0 < 64 → runeOf m many least c0 → ∀ fr, getAll [0, 1, 6, 7, 8] fr = [.s l, .v (.int .i64 i0), .v (.int .i64 c0), .v (.int .i64 many), .v (.int .i64 least)] → K0 fr H := fun many least c0 hmany hleast hc0 hr fr hfr => by
    refine hK0 _ _ (AWp_cut _ hfr ?_)
    simp only [List.zip_cons_cons, List.zip_nil_right]
    ((iterate 2 (refine AWp_seq_k (fun K hK => ?_))); apply s_region; apply s_q; decide; rfl; (simp only [go_sem]; rfl); apply s_nil; simp only [AThen, ABlock]; refine hK _ _ ?_; clear hK K; apply AWp_block)
    refine AWp_loop_s (σ := Nat × Nat) [0, 1, 6, 7, 8, 9] (fun s => [.s l, .v (.int .i64 i0), .v (.int .i64 ((s.2 : Nat) : Int)), .v (.int .i64 many), .v (.int .i64 least), .v (.int .i64 ((s.1 + 1 : Nat) : Int))]) (fun _ => H) (fun s => many - s.1)
      (fun s => s.1 ≤ many ∧ okN m s.1 ∧ s.2 = accN m c0 s.1 ∧ s.2 + 1 ≤ 64 ^ (s.1 + 1)) (0, c0) ⟨Nat.zero_le _, fun k hk => absurd hk (Nat.not_lt_zero k), rfl, by simp only; omega⟩ rfl rfl (fun s hs => ?_)
    obtain ⟨i, c⟩ := s
    obtain ⟨h1, h2, h3, h4⟩ := hs
    simp only [List.zip_cons_cons, List.zip_nil_right] at h1 h2 h3 h4 ⊢
    ((iterate 2 (refine AWp_seq_k (fun K hK => ?_))); apply s_region; (iterate 3 (apply s_q; decide; rfl; (simp only [go_sem]; rfl))); apply s_nil; simp only [AThen, ABlock]; refine hK _ _ ?_; clear hK K)
    refine cond_split (by simp only [go_sem]; try rfl) (fun hd => ?_) (fun hd => ?_)
    · have hlt2 : i < many := by simp at hd; omega
      have hwi : IntKind.i64.wrap ((i0 : Int) + ((i + 1 : Nat) : Int)) = ((i0 + (i + 1) : Nat) : Int) := by rw [wrap64 (by omega)]; omega
      by_cases hk : i0 + (i + 1) < l.length
      · obtain ⟨bk, hbk⟩ := gete hk
        have hmk : (m.getD (i + 1) 0) = bk := by rw [hm, List.getD_eq_getElem?_getD, List.getElem?_drop, hbk]; rfl
        have hge : decide (((l.length : Nat) : Int) ≤ ((i0 + (i + 1) : Nat) : Int)) = false := by simp; omega
        have cu := cont_u8 bk
        have lu := low_u8 bk
        have hc4 : c + 1 ≤ 64 ^ 4 := Nat.le_trans h4 (Nat.pow_le_pow_right (by decide) (by omega))
        have hwc : IntKind.i64.wrap ((c : Int) * 2 ^ min 6 64) = ((c * 64 : Nat) : Int) := by rw [show (2 : Int) ^ min 6 64 = 64 by decide, wrap64 (by omega)]; omega
        have hwl : IntKind.i64.wrap ((bk.toNat % 64 : Nat) : Int) = ((bk.toNat % 64 : Nat) : Int) := wrap64 (by omega)
        have ol := or_low (x := c) (y := bk.toNat % 64) (by omega) (by omega)
        (apply AWp_skip; simp only [AThen, ABlock]; refine hK _ _ ?_; clear hK K; refine AWp_seq_k (fun K hK => ?_); apply AWp_block; (iterate 2 (refine AWp_seq_k (fun K hK => ?_))); apply s_region; (iterate 7 (apply s_q; decide; rfl; (simp only [go_sem, hwi, hge, hbk, cu]; rfl))); (iterate 4 (apply s_spec; decide; rfl; rfl; (simp only [go_sem, hwi, hge, hbk, cu]; rfl); (simp only [go_sem, hwi, hge, hbk, cu]; rfl); (simp only [go_sem, hwi, hge, hbk, cu]; rfl); (simp only [go_sem, hwi, hge, hbk, cu]; rfl); trivial)); apply s_when; decide; (simp only [go_sem, hwi, hge, hbk, cu]; rfl); (simp only [go_sem, hwi, hge, hbk, cu]; rfl); (simp only [go_sem, hwi, hge, hbk, cu]; rfl); trivial; (intro hg; simp only [go_sem, hbk]; try rfl); (iterate 2 (apply s_spec; decide; rfl; rfl; (simp only [go_sem, hwi, hge, hbk, cu]; rfl); (simp only [go_sem, hwi, hge, hbk, cu]; rfl); (simp only [go_sem, hwi, hge, hbk, cu]; rfl); (simp only [go_sem, hwi, hge, hbk, cu]; rfl); trivial)); apply s_pick; decide; (simp only [go_sem, hwi, hge, hbk, cu]; rfl); (simp only [go_sem, hwi, hge, hbk, cu]; rfl); (simp only [go_sem, hwi, hge, hbk, cu]; rfl); (simp only [go_sem, hwi, hge, hbk, cu]; rfl); (simp only [go_sem, hwi, hge, hbk, cu]; rfl); (simp only [go_sem, hwi, hge, hbk, cu]; rfl); trivial; trivial; trivial; apply s_nil; simp only [AThen, ABlock]; refine hK _ _ ?_; clear hK K)
        refine cond_split (by simp only [go_sem]; try rfl) (fun he => ?_) (fun he => ?_)
        · have he : contB bk.toNat = false := by simpa using (congrArg (!·) cu).symm.trans he
          rw [hr.2 (fun hh => by have := (hh i hlt2).2; rw [hmk, he] at this; cases this)] at h
          (refine AWp_seq_k (fun K hK => ?_); apply s_region; (iterate 2 (apply s_q; decide; rfl; (simp only [go_sem]; rfl))); apply s_nil; simp only [AThen, ABlock]; refine hK _ _ ?_; clear hK K; apply AWp_ret; simp only [AThen, ABlock]; apply end_ret; rfl; simp only [AFr.get, reduceIte, Nat.reduceEqDiff])
          exact h _
        · have he : contB bk.toNat = true := by simpa using (congrArg (!·) cu).symm.trans he
          (apply AWp_skip; simp only [AThen, ABlock]; refine hK _ _ ?_; clear hK K; apply s_region; (iterate 11 (apply s_q; decide; rfl; (simp only [go_sem, hwi, hbk, lu, hwc, hwl, ol]; rfl))); apply s_nil; simp only [AThen, ABlock]; refine hK _ _ ?_; clear hK K; apply s_region; (iterate 3 (apply s_q; decide; rfl; (simp only [go_sem, hwi, hbk, lu, hwc, hwl, ol]; rfl))); apply s_nil; simp only [AThen, ABlock])
          refine ⟨(i + 1, c * 64 + bk.toNat % 64), by simp only; omega, ⟨by simp only; omega, fun k hk => ?_, ?_, ?_⟩, ?_, by trivial⟩
          · rcases Nat.lt_succ_iff_lt_or_eq.1 hk with hk | rfl
            · exact h2 k hk
            · exact ⟨by omega, by rw [hmk]; exact he⟩
          · simp only [accN, hmk, ← h3]
          · show c * 64 + bk.toNat % 64 + 1 ≤ 64 ^ (i + 1 + 1)
            have : 64 ^ (i + 1 + 1) = 64 ^ (i + 1) * 64 := Nat.pow_succ ..
            omega
          · simp only [getAll, List.map_cons, List.map_nil, AFr.get, reduceIte, Nat.reduceEqDiff]
            rw [show IntKind.i64.wrap (((i + 1 : Nat) : Int) + 1) = ((i + 1 + 1 : Nat) : Int) by rw [wrap64 (by omega)]; omega]
            have q : IntKind.i64.wrap (((BitVec.ofInt 64 ((c * 64 : Nat) : Int) ||| BitVec.ofInt 64 (IntKind.i64.wrap (IntKind.u8.wrap (((BitVec.ofInt 8 (bk.toNat : Int) &&& BitVec.ofInt 8 63).toNat : Nat) : Int)))).toNat : Nat) : Int) = ((c * 64 + bk.toNat % 64 : Nat) : Int) := by rw [lu, hwl, ol]
            exact congrArg (fun v => [AV.s l, .v (.int .i64 i0), .v (.int .i64 v), .v (.int .i64 many), .v (.int .i64 least), .v (.int .i64 ((i + 1 + 1 : Nat) : Int))]) q
      · have hge : decide (((l.length : Nat) : Int) ≤ ((i0 + (i + 1) : Nat) : Int)) = true := by simp; omega
        (apply AWp_skip; simp only [AThen, ABlock]; refine hK _ _ ?_; clear hK K; refine AWp_seq_k (fun K hK => ?_); apply AWp_block; (iterate 2 (refine AWp_seq_k (fun K hK => ?_))); apply s_region; (iterate 7 (apply s_q; decide; rfl; (simp only [go_sem, hwi, hge]; rfl))); (iterate 4 (apply s_spec; decide; rfl; rfl; (simp only [go_sem, hwi, hge]; rfl); (simp only [go_sem, hwi, hge]; rfl); (simp only [go_sem, hwi, hge]; rfl); (simp only [go_sem, hwi, hge]; rfl); trivial)); apply s_when (av := (.v (.int .u8 0))); decide; (simp only [go_sem, hwi, hge]; rfl); (simp only [go_sem, hwi, hge]; rfl); (simp only [go_sem, hwi, hge]; rfl); trivial; (focus (intro hg; first | (cases hg; done) | (simp at hg; done))); (iterate 2 (apply s_spec; decide; rfl; rfl; (simp only [go_sem, hwi, hge]; rfl); (simp only [go_sem, hwi, hge]; rfl); (simp only [go_sem, hwi, hge]; rfl); (simp only [go_sem, hwi, hge]; rfl); trivial)); apply s_pick; decide; (simp only [go_sem, hwi, hge]; rfl); (simp only [go_sem, hwi, hge]; rfl); (simp only [go_sem, hwi, hge]; rfl); (simp only [go_sem, hwi, hge]; rfl); (simp only [go_sem, hwi, hge]; rfl); (simp only [go_sem, hwi, hge]; rfl); trivial; trivial; trivial; apply s_nil; simp only [AThen, ABlock]; refine hK _ _ ?_; clear hK K)
        refine cond_split (by simp only [go_sem]; try rfl) (fun he => ?_) (fun he => ?_)
        · rw [hr.2 (fun hh => by have := (hh i hlt2).1; omega)] at h
          (refine AWp_seq_k (fun K hK => ?_); apply s_region; (iterate 2 (apply s_q; decide; rfl; (simp only [go_sem]; rfl))); apply s_nil; simp only [AThen, ABlock]; refine hK _ _ ?_; clear hK K; apply AWp_ret; simp only [AThen, ABlock]; apply end_ret; rfl; simp only [AFr.get, reduceIte, Nat.reduceEqDiff])
          exact h _
        · simp at he
    · have him : i = many := by simp at hd; omega
      subst him
      rw [hr.1 h2, ← h3] at h
      (apply AWp_exit; simp only [AThen, ABlock, reduceIte, Nat.reduceEqDiff]; clear hK K; refine hK _ _ ?_; clear hK K; (iterate 2 (refine AWp_seq_k (fun K hK => ?_))); apply s_region; (iterate 4 (apply s_q; decide; rfl; (simp only [go_sem]; rfl))); apply s_spec; decide; rfl; rfl; (simp only [go_sem]; rfl); (simp only [go_sem]; rfl); (simp only [go_sem]; rfl); (simp only [go_sem]; rfl); trivial; apply s_gpure; decide; (simp only [go_sem]; rfl); (simp only [go_sem]; rfl); (simp only [go_sem]; rfl); simp [condsOk]; (simp only [go_sem]; rfl); (simp only [go_sem]; rfl); (apply letter_c; exact ⟨rfl, rfl⟩); apply s_spec; decide; rfl; rfl; (simp only [go_sem]; rfl); (simp only [go_sem]; rfl); (simp only [go_sem]; rfl); (simp only [go_sem]; rfl); simp [condsOk]; apply s_pick; decide; (simp only [go_sem]; rfl); (simp only [go_sem]; rfl); (simp only [go_sem]; rfl); (simp only [go_sem]; rfl); (simp only [go_sem]; rfl); (simp only [go_sem]; rfl); trivial; trivial; simp [condsOk]; apply s_nil; simp only [AThen, ABlock]; refine hK _ _ ?_; clear hK K)
      refine cond_split (by simp only [go_sem]; try rfl) (fun he => ?_) (fun he => ?_)
      · rw [if_pos (by
          by_cases hv : c < least
          · exact .inl hv
          · rw [decide_eq_false (by omega)] at he
            right; simpa using he)] at h
        (refine AWp_seq_k (fun K hK => ?_); apply s_region; (iterate 2 (apply s_q; decide; rfl; (simp only [go_sem]; rfl))); apply s_nil; simp only [AThen, ABlock]; refine hK _ _ ?_; clear hK K; apply AWp_ret; simp only [AThen, ABlock]; apply end_ret; rfl; simp only [AFr.get, reduceIte, Nat.reduceEqDiff])
        exact h _
      · have he' : ¬ c < least ∧ letB (c : Nat) = true := by
          by_cases hv : c < least
          · rw [decide_eq_true (by omega)] at he; cases he
          · rw [decide_eq_false (by omega)] at he
            exact ⟨hv, by simpa using he⟩
        rw [if_neg (by rw [he'.2]; simpa using he'.1)] at h
        (apply AWp_skip; simp only [AThen, ABlock]; refine hK _ _ ?_; clear hK K; refine AWp_seq_k (fun K hK => ?_); apply s_region; (iterate 5 (apply s_q; decide; rfl; (simp only [go_sem]; rfl))); apply s_nil; simp only [AThen, ABlock]; refine hK _ _ ?_; clear hK K; apply AWp_ret)
        rw [show IntKind.i64.wrap ((i : Int) + 1) = ((i + 1 : Nat) : Int) by rw [wrap64 (by omega)]; omega]
        exact h _
  have hM1 := fun (hge : 192 ≤ b0.toNat) (hl2 : b0.toNat < 224) => rune1 (m := m) hne (by rw [hm0]; exact hge) (by rw [hm0]; exact hl2)
  have hM2 := fun (hge : 224 ≤ b0.toNat) (hl2 : b0.toNat < 240) => rune2 (m := m) hne (by rw [hm0]; exact hge) (by rw [hm0]; exact hl2)
  have hM3 := fun (hge : 240 ≤ b0.toNat) (hl2 : b0.toNat < 248) => rune3 (m := m) hne (by rw [hm0]; exact hge) (by rw [hm0]; exact hl2)
  rw [hm0] at hM1 hM2 hM3
  have a5 : IntKind.i64.wrap (((BitVec.ofInt 64 (b0.toNat : Int) &&& BitVec.ofInt 64 31).toNat : Nat) : Int) = ((b0.toNat % 32 : Nat) : Int) := and_mask (x := b0.toNat) (k := 5) (by omega) (by decide)
  have a4 : IntKind.i64.wrap (((BitVec.ofInt 64 (b0.toNat : Int) &&& BitVec.ofInt 64 15).toNat : Nat) : Int) = ((b0.toNat % 16 : Nat) : Int) := and_mask (x := b0.toNat) (k := 4) (by omega) (by decide)
  have a3 : IntKind.i64.wrap (((BitVec.ofInt 64 (b0.toNat : Int) &&& BitVec.ofInt 64 7).toNat : Nat) : Int) = ((b0.toNat % 8 : Nat) : Int) := and_mask (x := b0.toNat) (k := 3) (by omega) (by decide)
  have hrng : ∀ a d : Nat, (if decide ((a : Int) ≤ (b0.toNat : Int)) = true then decide ((b0.toNat : Int) < (d : Int)) else false) = decide (a ≤ b0.toNat ∧ b0.toNat < d) := fun a d => by
    by_cases q : a ≤ b0.toNat
    · rw [if_pos (by simp; omega)]
      by_cases q2 : b0.toNat < d
      · rw [decide_eq_true (by omega), decide_eq_true ⟨q, q2⟩]
      · rw [decide_eq_false (by omega), decide_eq_false (fun x => q2 x.2)]
    · rw [if_neg (by simp; omega), decide_eq_false (fun x => q x.1)]
  (apply AWp_block; refine AWp_seq_k (fun K hK => ?_); apply s_region; (iterate 3 (apply s_q; decide; rfl; (simp only [go_sem]; rfl))); apply s_spec; decide; rfl; rfl; (simp only [go_sem]; rfl); (simp only [go_sem]; rfl); (simp only [go_sem]; rfl); (simp only [go_sem]; rfl); trivial; apply s_spec; decide; rfl; rfl; (simp only [go_sem]; rfl); (simp only [go_sem]; rfl); (simp only [go_sem]; rfl); (simp only [go_sem]; rfl); simp [condsOk]; apply s_pick; decide; (simp only [go_sem]; rfl); (simp only [go_sem]; rfl); (simp only [go_sem]; rfl); (simp only [go_sem]; rfl); (simp only [go_sem]; rfl); (simp only [go_sem]; rfl); trivial; simp [condsOk]; trivial; apply s_q; decide; rfl; (simp only [go_sem]; rfl); apply s_nil; simp only [AThen, ABlock]; refine hK _ _ ?_; clear hK K)
  refine cond_split (by simp only [go_sem]; try rfl) (fun hd => ?_) (fun hd => ?_)
  · have hd := (hrng 192 224).symm.trans hd
    simp only [decide_eq_true_eq] at hd
    (refine AWp_seq_k (fun K hK => ?_); apply s_region; apply s_q; decide; rfl; (simp only [go_sem, a5]; rfl); apply s_nil; simp only [AThen, ABlock]; refine hK _ _ ?_; clear hK K; refine AWp_seq_k (fun K hK => ?_); apply s_region; apply s_q; decide; rfl; (simp only [go_sem, a5]; rfl); apply s_nil; simp only [AThen, ABlock]; refine hK _ _ ?_; clear hK K; apply s_region; (iterate 3 (apply s_q; decide; rfl; (simp only [go_sem, a5]; rfl))); apply s_nil; simp only [AThen, ABlock])
    exact hgo 1 128 _ (by decide) (by decide) (by omega) (hM1 hd.1 hd.2) _ (congrArg (fun c => [AV.s l, .v (.int .i64 i0), .v (.int .i64 c), .v (.int .i64 1), .v (.int .i64 128)]) a5)
  have hd := (hrng 192 224).symm.trans hd
  simp only [decide_eq_false_iff_not] at hd
  (refine AWp_seq_k (fun K hK => ?_); apply s_region; (iterate 3 (apply s_q; decide; rfl; (simp only [go_sem]; rfl))); apply s_spec; decide; rfl; rfl; (simp only [go_sem]; rfl); (simp only [go_sem]; rfl); (simp only [go_sem]; rfl); (simp only [go_sem]; rfl); trivial; apply s_spec; decide; rfl; rfl; (simp only [go_sem]; rfl); (simp only [go_sem]; rfl); (simp only [go_sem]; rfl); (simp only [go_sem]; rfl); simp [condsOk]; apply s_pick; decide; (simp only [go_sem]; rfl); (simp only [go_sem]; rfl); (simp only [go_sem]; rfl); (simp only [go_sem]; rfl); (simp only [go_sem]; rfl); (simp only [go_sem]; rfl); trivial; simp [condsOk]; trivial; apply s_q; decide; rfl; (simp only [go_sem]; rfl); apply s_nil; simp only [AThen, ABlock]; refine hK _ _ ?_; clear hK K)
  refine cond_split (by simp only [go_sem]; try rfl) (fun he => ?_) (fun he => ?_)
  · have he := (hrng 224 240).symm.trans he
    simp only [decide_eq_true_eq] at he
    (refine AWp_seq_k (fun K hK => ?_); apply s_region; apply s_q; decide; rfl; (simp only [go_sem, a4]; rfl); apply s_nil; simp only [AThen, ABlock]; refine hK _ _ ?_; clear hK K; refine AWp_seq_k (fun K hK => ?_); apply s_region; apply s_q; decide; rfl; (simp only [go_sem, a4]; rfl); apply s_nil; simp only [AThen, ABlock]; refine hK _ _ ?_; clear hK K; apply s_region; (iterate 3 (apply s_q; decide; rfl; (simp only [go_sem, a4]; rfl))); apply s_nil; simp only [AThen, ABlock])
    exact hgo 2 2048 _ (by decide) (by decide) (by omega) (hM2 he.1 he.2) _ (congrArg (fun c => [AV.s l, .v (.int .i64 i0), .v (.int .i64 c), .v (.int .i64 2), .v (.int .i64 2048)]) a4)
  have he := (hrng 224 240).symm.trans he
  simp only [decide_eq_false_iff_not] at he
  (refine AWp_seq_k (fun K hK => ?_); apply s_region; (iterate 3 (apply s_q; decide; rfl; (simp only [go_sem]; rfl))); apply s_spec; decide; rfl; rfl; (simp only [go_sem]; rfl); (simp only [go_sem]; rfl); (simp only [go_sem]; rfl); (simp only [go_sem]; rfl); trivial; apply s_spec; decide; rfl; rfl; (simp only [go_sem]; rfl); (simp only [go_sem]; rfl); (simp only [go_sem]; rfl); (simp only [go_sem]; rfl); simp [condsOk]; apply s_pick; decide; (simp only [go_sem]; rfl); (simp only [go_sem]; rfl); (simp only [go_sem]; rfl); (simp only [go_sem]; rfl); (simp only [go_sem]; rfl); (simp only [go_sem]; rfl); trivial; simp [condsOk]; trivial; apply s_q; decide; rfl; (simp only [go_sem]; rfl); apply s_nil; simp only [AThen, ABlock]; refine hK _ _ ?_; clear hK K)
  refine cond_split (by simp only [go_sem]; try rfl) (fun hf => ?_) (fun hf => ?_)
  · have hf := (hrng 240 248).symm.trans hf
    simp only [decide_eq_true_eq] at hf
    (refine AWp_seq_k (fun K hK => ?_); apply s_region; apply s_q; decide; rfl; (simp only [go_sem, a3]; rfl); apply s_nil; simp only [AThen, ABlock]; refine hK _ _ ?_; clear hK K; refine AWp_seq_k (fun K hK => ?_); apply s_region; apply s_q; decide; rfl; (simp only [go_sem, a3]; rfl); apply s_nil; simp only [AThen, ABlock]; refine hK _ _ ?_; clear hK K; apply s_region; (iterate 3 (apply s_q; decide; rfl; (simp only [go_sem, a3]; rfl))); apply s_nil; simp only [AThen, ABlock])
    exact hgo 3 65536 _ (by decide) (by decide) (by omega) (hM3 hf.1 hf.2) _ (congrArg (fun c => [AV.s l, .v (.int .i64 i0), .v (.int .i64 c), .v (.int .i64 3), .v (.int .i64 65536)]) a3)
  have hf := (hrng 240 248).symm.trans hf
  simp only [decide_eq_false_iff_not] at hf
  have e : docL m = 0 := by
    unfold docL docN
    rw [hm0, if_neg (by omega)]
    by_cases q : b0.toNat < 192
    · rw [if_pos q]
    · rw [if_neg q, if_neg (by omega), if_neg (by omega), if_neg (by omega)]
  rw [e] at h
  (refine AWp_seq_k (fun K hK => ?_); apply s_region; (iterate 2 (apply s_q; decide; rfl; (simp only [go_sem]; rfl))); apply s_nil; simp only [AThen, ABlock]; refine hK _ _ ?_; clear hK K; apply AWp_ret; simp only [AThen, ABlock]; apply end_ret; rfl; simp only [AFr.get, reduceIte, Nat.reduceEqDiff])
  exact h _
/-- the place of the first byte that is no letter's; -1: none -/
def badF : Nat → Nat → List UInt8 → Int
  | 0, _, _ => -1
  | n + 1, i, l => if l = [] then -1 else if docL l = 0 then (i : Int) else badF n (i + docL l) (l.drop (docL l))
theorem badF_fuel : ∀ (n n' i : Nat) (l : List UInt8), l.length ≤ n → l.length ≤ n' → badF n i l = badF n' i l := fun n => by
  induction n with
  | zero =>
    intro n' i l h h'
    obtain rfl : l = [] := List.length_eq_zero_iff.1 (by omega)
    cases n' with
    | zero => rfl
    | succ n' => rw [badF, badF, if_pos rfl]
  | succ n ih =>
    intro n' i l h h'
    by_cases hl : l = []
    · subst hl
      cases n' with
      | zero => rw [badF, badF, if_pos rfl]
      | succ n' => rw [badF, badF, if_pos rfl, if_pos rfl]
    · have hp := List.length_pos_iff.2 hl
      cases n' with
      | zero => omega
      | succ n' =>
        rw [badF, badF, if_neg hl, if_neg hl]
        by_cases h0 : docL l = 0
        · rw [if_pos h0, if_pos h0]
        · rw [if_neg h0, if_neg h0]
          exact ih n' _ _ (by rw [List.length_drop]; omega) (by rw [List.length_drop]; omega)
theorem badF_valid : ∀ (n i : Nat) (l : List UInt8), l.length ≤ n → decide (badF n i l < 0) = Lib.validD l := fun n => by
  induction n with
  | zero =>
    intro i l h
    obtain rfl : l = [] := List.length_eq_zero_iff.1 (by omega)
    rfl
  | succ n ih =>
    intro i l h
    by_cases hl : l = []
    · subst hl; rw [badF, if_pos rfl]; rfl
    · have hp := List.length_pos_iff.2 hl
      rw [badF, if_neg hl, docL_valid hl]
      by_cases h0 : docL l = 0
      · rw [if_pos h0, if_pos h0]; simp
      · rw [if_neg h0, if_neg h0]
        exact ih _ _ (by rw [List.length_drop]; omega)
def badI (l : List UInt8) : Int := badF l.length 0 l
theorem badI_valid (l : List UInt8) : decide (badI l < 0) = Lib.validD l := badF_valid _ _ _ (Nat.le_refl _)
theorem badI_ge (l : List UInt8) : decide (0 ≤ badI l) = !Lib.validD l := by
  rw [← badI_valid]
  by_cases h : badI l < 0
  · rw [decide_eq_true h, decide_eq_false (by omega)]; rfl
  · rw [decide_eq_false h, decide_eq_true (by omega)]; rfl
theorem bad_c (l : List UInt8) (hl : l.length ≤ 4611686018427387904) (H : AHeap) (Kc : AV → AHeap → Prop) (h : Kc (.v (.int .i64 (badI l))) H) : ACall X 61 [.s l] H Kc := by
  refine ACall_intro Tryz.func61 rfl (by kernel_rfl) (by rw [Tryz.ntmps61]; simp) ?_; rw [Tryz.ntmps61]; simp only [frame0, Nat.reduceAdd]
  (refine AWp_seq_k (fun K hK => ?_); apply s_region; apply s_q; decide; rfl; (simp only [go_sem]; rfl); apply s_nil; simp only [AThen, ABlock]; refine hK _ _ ?_; clear hK K; (iterate 2 (refine AWp_seq_k (fun K hK => ?_))); apply s_region; apply s_q; decide; rfl; (simp only [go_sem]; rfl); apply s_nil; simp only [AThen, ABlock]; refine hK _ _ ?_; clear hK K; apply AWp_block)
  refine AWp_loop_s (σ := Nat) [0, 3] (fun i => [.s l, .v (.int .i64 ((i : Nat) : Int))]) (fun _ => H) (fun i => l.length - i) (fun i => i ≤ l.length ∧ badI l = badF l.length i (l.drop i)) 0 ⟨Nat.zero_le _, by rw [List.drop_zero]; rfl⟩ rfl rfl (fun i hi => ?_)
  obtain ⟨h1, h2⟩ := hi
  simp only [List.zip_cons_cons, List.zip_nil_right]
  obtain ⟨n, hn⟩ : ∃ n, n + 1 = l.length + 1 := ⟨_, rfl⟩
  rw [badF_fuel l.length (l.length + 1) i (l.drop i) (by rw [List.length_drop]; omega) (by rw [List.length_drop]; omega), badF] at h2
  ((iterate 2 (refine AWp_seq_k (fun K hK => ?_))); apply s_region; (iterate 4 (apply s_q; decide; rfl; (simp only [go_sem]; rfl))); apply s_nil; simp only [AThen, ABlock]; refine hK _ _ ?_; clear hK K)
  refine cond_split (by simp only [go_sem]; try rfl) (fun hd => ?_) (fun hd => ?_)
  · have hlt : i < l.length := by simpa using hd
    have hne : l.drop i ≠ [] := List.length_pos_iff.1 (by rw [List.length_drop]; omega)
    have hle := docL_le hne
    rw [List.length_drop] at hle
    rw [if_neg hne] at h2
    (apply AWp_skip; simp only [AThen, ABlock]; refine hK _ _ ?_; clear hK K; apply AWp_block; refine AWp_seq_k (fun K hK => ?_); apply s_region; (iterate 2 (apply s_q; decide; rfl; (simp only [go_sem]; rfl))); apply s_call; decide; (simp only [go_sem]; rfl); (simp only [go_sem]; rfl); refine rune_c l i hlt hl _ _ (fun c => ?_); (iterate 5 (apply s_q; decide; rfl; (simp only [go_sem]; rfl))); apply s_nil; simp only [AThen, ABlock]; refine hK _ _ ?_; clear hK K; (iterate 2 (refine AWp_seq_k (fun K hK => ?_))); apply s_region; (iterate 2 (apply s_q; decide; rfl; (simp only [go_sem]; rfl))); apply s_nil; simp only [AThen, ABlock]; refine hK _ _ ?_; clear hK K)
    refine cond_split (by simp only [go_sem]; try rfl) (fun he => ?_) (fun he => ?_)
    · have he : docL (l.drop i) = 0 := by simp at he; omega
      rw [if_pos he] at h2
      rw [h2] at h
      (refine AWp_seq_k (fun K hK => ?_); apply s_region; (iterate 2 (apply s_q; decide; rfl; (simp only [go_sem]; rfl))); apply s_nil; simp only [AThen, ABlock]; refine hK _ _ ?_; clear hK K; apply AWp_ret; simp only [AThen, ABlock]; apply end_ret; rfl; simp only [AFr.get, reduceIte, Nat.reduceEqDiff])
      exact h
    · have he : ¬ docL (l.drop i) = 0 := by simp at he; omega
      rw [if_neg he] at h2
      (apply AWp_skip; simp only [AThen, ABlock]; refine hK _ _ ?_; clear hK K; apply s_region; (iterate 4 (apply s_q; decide; rfl; (simp only [go_sem]; rfl))); apply s_nil; simp only [AThen, ABlock])
      refine ⟨i + docL (l.drop i), by omega, ⟨by omega, ?_⟩, ?_, by trivial⟩
      · rw [h2, List.drop_drop]
      · simp only [getAll, List.map_cons, List.map_nil, AFr.get, reduceIte, Nat.reduceEqDiff]
        rw [show IntKind.i64.wrap ((i : Int) + (docL (l.drop i) : Int)) = ((i + docL (l.drop i) : Nat) : Int) by rw [wrap64 (by omega)]; omega]; try rfl
  · have hge : l.drop i = [] := List.drop_eq_nil_of_le (by simpa using hd)
    rw [if_pos hge] at h2
    rw [h2] at h
    (apply AWp_exit; simp only [AThen, ABlock, reduceIte, Nat.reduceEqDiff]; clear hK K; refine hK _ _ ?_; clear hK K; refine AWp_seq_k (fun K hK => ?_); apply s_region; apply s_q; decide; rfl; (simp only [go_sem]; rfl); apply s_nil; simp only [AThen, ABlock]; refine hK _ _ ?_; clear hK K; apply AWp_ret)
    exact h
end Go.Proofs.YtpdfgmedbphmkaaGreatDoor
