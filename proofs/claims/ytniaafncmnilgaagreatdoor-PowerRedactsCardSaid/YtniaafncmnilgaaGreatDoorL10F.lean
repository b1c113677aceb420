/-
  What a small content is: the plain part.
-/
import Derived.Test.YtniaafncmnilgaaGreatDoorL10E
set_option linter.unusedSimpArgs false
set_option linter.unusedVariables false
set_option maxRecDepth 100000
namespace Go.Proofs.YtniaafncmnilgaaGreatDoor
open Go Go.AL

theorem fold_all (d : Nat) : ∀ (l : List J) (m : Int), 0 ≤ l.foldl (fun n x => if 0 ≤ n then leftI d x n else n) m → ∀ x ∈ l, ∃ m', 0 ≤ leftI d x m'
  | [], m, h, x, hx => by cases hx
  | y :: l, m, h, x, hx => by
    rw [List.foldl_cons] at h
    by_cases hm : 0 ≤ m
    · rw [if_pos hm] at h
      rcases List.mem_cons.1 hx with rfl | hx
      · refine ⟨m, ?_⟩
        by_cases h1 : 0 ≤ leftI d x m
        · exact h1
        · rw [fold_neg d l _ h1] at h; exact absurd h h1
      · exact fold_all d l _ h x hx
    · rw [if_neg hm, fold_neg d l _ hm] at h
      exact absurd h hm
/-- within, all keys are short -/
theorem left_fit : ∀ (d : Nat) (j : J) (n : Int), 0 ≤ leftI d j n → J.Fit j ∧ (∀ k ∈ j.keys, k.length ≤ 200) ∧ ∀ x ∈ j.list, ∀ k ∈ x.keys, k.length ≤ 200 := fun d => by
  induction d with
  | zero => intro j n h; simp [leftI] at h
  | succ d ih =>
    intro j n h
    rw [leftI] at h
    split at h
    · omega
    split at h
    · omega
    rename_i h1 h2
    have hk : ∀ k ∈ j.keys, k.length ≤ 200 := fun k hk => by
      rw [Bool.not_eq_true, List.any_eq_false] at h2
      have := h2 k hk
      simp at this; omega
    have hx := fold_all d j.list _ h
    refine ⟨fit_eq.2 ⟨⟨by omega, by omega⟩, by omega, fun k hkm => by have := hk k hkm; omega, fun x hxm => ?_⟩, hk, fun x hxm => ?_⟩
    · obtain ⟨m, hm⟩ := hx x hxm
      exact (ih x m hm).1
    · obtain ⟨m, hm⟩ := hx x hxm
      exact (ih x m hm).2.1
theorem small_fit {j : J} (h : smlB j = true) : J.Fit j ∧ (∀ k ∈ j.keys, k.length ≤ 200) ∧ ∀ x ∈ j.list, ∀ k ∈ x.keys, k.length ≤ 200 := left_fit 15 j 200 (by simpa [smlB] using h)
end Go.Proofs.YtniaafncmnilgaaGreatDoor
