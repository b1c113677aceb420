/-
  The contract of Merge.
-/
import Derived.Test.YtpdfgmedbphmkaaGreatDoorW26L
set_option linter.unusedSimpArgs false
set_option linter.unusedVariables false
set_option maxRecDepth 100000
namespace Go.Proofs.YtpdfgmedbphmkaaGreatDoor
open Go Go.AL
attribute [local irreducible] AOps AWp SOps AE AT ACall AApp

/-- how many of these a board takes, and what it is then -/
def merge1 (l : List Mark) (ms : List (List UInt8 × Mark)) : Nat × List (List UInt8 × Mark) := l.foldl (fun s m => ((if (put1 m s.2).1 then s.1 + 1 else s.1), (put1 m s.2).2.2)) (0, ms)
theorem merge1_step {l : List Mark} {i : Nat} {m : Mark} {ms : List (List UInt8 × Mark)} (h : l[i]? = some m) : merge1 (l.take (i + 1)) ms = ((if (put1 m (merge1 (l.take i) ms).2).1 then (merge1 (l.take i) ms).1 + 1 else (merge1 (l.take i) ms).1), (put1 m (merge1 (l.take i) ms).2).2.2) := by
  unfold merge1; rw [List.take_add_one, h]; simp [List.foldl_append]
theorem merge1_snd (l : List Mark) : ∀ (n : Nat) (ms : List (List UInt8 × Mark)), (l.foldl (fun s m => ((if (put1 m s.2).1 then s.1 + 1 else s.1), (put1 m s.2).2.2)) (n, ms)).2 = l.foldl (fun ms m => (put1 m ms).2.2) ms := by
  induction l with
  | nil => intro n ms; rfl
  | cons m l ih => intro n ms; simp only [List.foldl_cons]; rw [ih]
theorem merge1_len (l : List Mark) : ∀ (n : Nat) (ms : List (List UInt8 × Mark)), (l.foldl (fun s m => ((if (put1 m s.2).1 then s.1 + 1 else s.1), (put1 m s.2).2.2)) (n, ms)).1 ≤ n + l.length := by
  induction l with
  | nil => intro n ms; exact Nat.le_refl _
  | cons m l ih =>
    intro n ms
    simp only [List.foldl_cons, List.length_cons]
    refine Nat.le_trans (ih _ _) ?_
    split <;> omega

end Go.Proofs.YtpdfgmedbphmkaaGreatDoor
