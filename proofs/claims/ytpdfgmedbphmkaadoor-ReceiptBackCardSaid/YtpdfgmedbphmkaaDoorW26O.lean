/-
  The law ReceiptGrows, walked.
-/
import Derived.Test.YtpdfgmedbphmkaaDoorW26N
set_option linter.unusedSimpArgs false
set_option linter.unusedVariables false
set_option maxRecDepth 100000
namespace Go.Proofs.YtpdfgmedbphmkaaDoor
open Go Go.AL
attribute [local irreducible] AOps AWp SOps AE AT ACall AApp

theorem put1_cases (m : Mark) (ms : List (List UInt8 × Mark)) : (∃ e : Int, (e = 0 ∨ e = 1) ∧ put1 m ms = (false, e, ms)) ∨
    (put1 m ms = (true, 0, aput m.user m ms) ∧ okMark m = true ∧ ∀ x, afind m.user ms = some x → ¬ Le m x) := by
  simp only [put1]
  split
  · rename_i ho
    split
    · rename_i x hx
      split
      · exact .inl ⟨0, .inl rfl, rfl⟩
      · rename_i hle
        refine .inr ⟨rfl, ho, fun y hy => ?_⟩
        rw [hx] at hy; cases hy
        exact fun h => hle ((later_le m x).2 h)
    · rename_i hx
      refine .inr ⟨rfl, ho, fun y hy => ?_⟩
      rw [hx] at hy; cases hy
  · exact .inl ⟨1, .inr rfl, rfl⟩
theorem aput_len (m : Mark) (ms : List (List UInt8 × Mark)) : ms.length ≤ (aput m.user m ms).length := by
  have := congrArg List.length (keys_aput m.user m ms)
  rw [List.length_map] at this
  rw [this]
  split <;> simp
theorem filter_drop_le {p : List UInt8 → Bool} {l : List (List UInt8)} {a b : Nat} (h : a ≤ b) : ((l.drop b).filter p).length ≤ ((l.drop a).filter p).length := by
  have : l.drop b = (l.drop a).drop (b - a) := by rw [List.drop_drop]; congr 1; omega
  rw [this]
  exact (List.Sublist.filter p (List.drop_sublist _ _)).length_le
theorem unread_grows {m : Mark} {ms : List (List UInt8 × Mark)} (S : List (List UInt8)) (ho : okMark m = true) (h : ∀ x, afind m.user ms = some x → ¬ Le m x) (hpos : ∀ x, afind m.user ms = some x → 0 ≤ x.at_) :
    unread m.user (aput m.user m ms) S ≤ unread m.user ms S := by
  simp only [unread]
  refine filter_drop_le ?_
  simp only [fromN, afind_aput, if_true]
  cases hf : afind m.user ms with
  | none => simp
  | some x =>
    have h1 := h x hf
    have h2 := hpos x hf
    simp only [Le] at h1
    simp only
    omega

end Go.Proofs.YtpdfgmedbphmkaaDoor
