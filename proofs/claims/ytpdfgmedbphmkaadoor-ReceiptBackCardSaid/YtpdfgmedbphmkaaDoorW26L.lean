/-
  The law ReceiptOrder, walked.
-/
import Derived.Test.YtpdfgmedbphmkaaDoorW26K
set_option linter.unusedSimpArgs false
set_option linter.unusedVariables false
set_option maxRecDepth 100000
namespace Go.Proofs.YtpdfgmedbphmkaaDoor
open Go Go.AL
attribute [local irreducible] AOps AWp SOps AE AT ACall AApp

theorem few_len {l : List Mark} (h : few l = true) : l.length ≤ 60 := by
  simp only [few, Bool.and_eq_true, decide_eq_true_eq] at h; exact h.1
theorem few_user {l : List Mark} (h : few l = true) : ∀ m ∈ l, m.user.length < 4294967281 := by
  simp only [few, Bool.and_eq_true, decide_eq_true_eq, List.all_eq_true] at h
  intro m hm
  have := h.2 m hm
  omega

/-- each twice, the last first -/
def turned (l : List Mark) : Nat → List Mark
  | 0 => []
  | i + 1 => turned l i ++ (match l[l.length - 1 - i]? with | some m => [m, m] | none => [])
theorem mem_turned (l : List Mark) (m : Mark) : ∀ i, i ≤ l.length → (m ∈ turned l i ↔ ∃ k, l.length - i ≤ k ∧ l[k]? = some m)
  | 0, _ => by
    simp only [turned, List.not_mem_nil, false_iff, not_exists, not_and]
    intro k hk h
    have := (List.getElem?_eq_some_iff.1 h).1
    omega
  | i + 1, hi => by
    have ih := mem_turned l m i (by omega)
    simp only [turned, List.mem_append, ih]
    obtain ⟨x, hx⟩ : ∃ x, l[l.length - 1 - i]? = some x := ⟨_, List.getElem?_eq_getElem (by omega)⟩
    rw [hx]
    constructor
    · rintro (⟨k, h1, h2⟩ | h)
      · exact ⟨k, by omega, h2⟩
      · simp at h; subst h; exact ⟨_, by omega, hx⟩
    · rintro ⟨k, h1, h2⟩
      by_cases e : k = l.length - 1 - i
      · subst e; rw [hx] at h2; cases h2; right; simp
      · left; exact ⟨k, by omega, h2⟩
theorem turned_len (l : List Mark) : ∀ i, (turned l i).length ≤ 2 * i
  | 0 => Nat.le_refl _
  | i + 1 => by
    have := turned_len l i
    simp only [turned, List.length_append]
    split <;> simp <;> omega

theorem turned_mem (l : List Mark) (m : Mark) : m ∈ turned l l.length ↔ m ∈ l := by
  rw [mem_turned l m _ (Nat.le_refl _)]
  constructor
  · rintro ⟨k, _, h⟩; exact List.mem_of_getElem? h
  · intro h; obtain ⟨k, hk, e⟩ := List.getElem_of_mem h; exact ⟨k, by omega, by rw [List.getElem?_eq_getElem hk, e]⟩

theorem snap_marks (b sz : Nat) (es : List (List AV)) (l : List Mark) : AV.snapss b sz es (l.map Mark.cells) = l.map Mark.cells := snapss_map (fun _ => rfl) l
end Go.Proofs.YtpdfgmedbphmkaaDoor
