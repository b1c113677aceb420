/-
  Names of users and types are of ASCII, so they are valid. The plain part.
-/
import Derived.Test.YtniaafncmnilgaaGreatDoorR5
set_option linter.unusedSimpArgs false
set_option linter.unusedVariables false
set_option maxRecDepth 100000
namespace Go.Proofs.YtniaafncmnilgaaGreatDoor
open Go Go.AL

theorem ascii_valid : ∀ (n : Nat) (l : List UInt8), l.length ≤ n → (∀ c ∈ l, c.toNat < 128) → Lib.validD l = true := fun n => by
  induction n with
  | zero => intro l hl h; obtain rfl : l = [] := List.length_eq_zero_iff.1 (by omega); rfl
  | succ n ih =>
    intro l hl h
    cases l with
    | nil => rfl
    | cons b l =>
      have hb : b.toNat < 128 := h b (by simp)
      have hd : docL (b :: l) = 1 := by
        rw [docL]
        simp only [List.getD_cons_zero]
        rw [docN]
        simp [hb]
      rw [docL_valid (by simp), hd]
      simp only [List.drop_succ_cons, List.drop_zero]
      rw [if_neg (by decide)]
      exact ih l (by simp at hl; omega) (fun c hc => h c (by simp [hc]))
theorem small_ascii {c : UInt8} (h : smallB (c.toNat : Int) = true) : c.toNat < 128 := by
  simp [smallB] at h; omega
theorem type_valid {l : List UInt8} (h : isType l = true) : Lib.validD l = true := by
  refine ascii_valid l.length l (Nat.le_refl _) (fun c hc => ?_)
  rw [isType, ofB] at h
  simp only [Bool.and_eq_true, List.all_eq_true] at h
  have := h.2 c hc
  simp only [typeB, Bool.or_eq_true, decide_eq_true_eq] at this
  rcases this with h | h
  · exact small_ascii h
  · omega
theorem local_ascii {l : List UInt8} (h : isLocal l = true) : ∀ c ∈ l, c.toNat < 128 := fun c hc => by
  rw [isLocal, ofB] at h
  simp only [Bool.and_eq_true, List.all_eq_true] at h
  have := h.2 c hc
  simp only [localB, Bool.or_eq_true, decide_eq_true_eq] at this
  rcases this with (h | h) | h
  · exact small_ascii h
  · omega
  · omega
theorem server_ascii {l : List UInt8} (h : isServer l = true) : ∀ c ∈ l, c.toNat < 128 := fun c hc => by
  rw [isServer, ofB] at h
  simp only [Bool.and_eq_true, List.all_eq_true] at h
  have := h.2 c hc
  simp only [serverB, Bool.or_eq_true, decide_eq_true_eq] at this
  rcases this with h | h
  · exact small_ascii h
  · omega
theorem user_valid {l : List UInt8} (h : (idCut [64] l).isSome = true) : Lib.validD l = true := by
  refine ascii_valid l.length l (Nat.le_refl _) (fun c hc => ?_)
  unfold idCut at h
  cases hp : hasPre l [64] with
  | false => simp [hp] at h
  | true =>
    obtain ⟨w, rfl⟩ : ∃ w, l = 64 :: w := by
      cases l with
      | nil => cases hp
      | cons b w => simp [hasPre] at hp; exact ⟨w, by rw [hp]⟩
    simp only [hp, if_true, Bool.true_and, List.length_singleton, List.drop_succ_cons, List.drop_zero] at h
    rcases Lib.index_spec w [58] with ⟨h1, _⟩ | ⟨i, h1, h2, h3, _⟩
    · have hcut : Lib.cut w [58] = (w, [], false) := by rw [Lib.cut, h1, if_neg (by decide)]
      rw [hcut] at h; simp at h
    · rw [occ_one] at h3
      have h3 : w[i]? = some 58 := by simpa using h3
      have hcut : Lib.cut w [58] = (w.take i, w.drop (i + 1), true) := by rw [Lib.cut, h1, if_pos (by omega)]; rfl
      rw [hcut] at h
      simp only [Bool.true_and] at h
      have hb : (isLocal (w.take i) && isServer (w.drop (i + 1))) = true := by
        cases hx : (isLocal (w.take i) && isServer (w.drop (i + 1))) with
        | true => rfl
        | false => rw [hx] at h; simp at h
      simp only [Bool.and_eq_true] at hb
      obtain ⟨hi, he⟩ := List.getElem?_eq_some_iff.1 h3
      have hw : w = w.take i ++ 58 :: w.drop (i + 1) := by
        rw [← he, ← List.drop_eq_getElem_cons hi, List.take_append_drop]
      rcases List.mem_cons.1 hc with rfl | hc
      · decide
      · rw [hw] at hc
        rcases List.mem_append.1 hc with hc | hc
        · exact local_ascii hb.1 c hc
        · rcases List.mem_cons.1 hc with rfl | hc
          · decide
          · exact server_ascii hb.2 c hc
end Go.Proofs.YtniaafncmnilgaaGreatDoor
