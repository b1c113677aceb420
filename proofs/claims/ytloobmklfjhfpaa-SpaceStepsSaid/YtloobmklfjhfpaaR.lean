/-
  What every row of this seat needs: the arguments opened.
-/
import Derived.Test.YtloobmklfjhfpaaRows
import Derived.HandedShaped
import Derived.RowKit
import Derived.Test.YtloobmklfjhfpaaAL2
import Derived.Test.YtloobmklfjhfpaaG
set_option linter.unusedSimpArgs false
set_option linter.unusedVariables false
set_option maxRecDepth 100000
namespace Go.Proofs.Ytloobmklfjhfpaa
open Go Go.AL Go.RowKit Go.ChangeShapes

theorem own : ownKnob Try.prog.godebug = none := by kernel_rfl
theorem laidOut : laidOutB Try.prog = true := by kernel_rfl
theorem maxCell {W : World} (h : W.ShapedOpen Try.prog) : X.Γ (Fz W (phi0 W)) := trivial
section
variable {H : Type} {enc : TypeId × Value → H} {w : World}
theorem o_9 (n : Nat) : OpensL enc X.P w n 9 fun xs => ∃ l : List UInt8, xs = bytesCells l ∧ l.length ≤ reachBytes := o_str Try.underlying9 (by kernel_rfl) n
theorem o_3 (n : Nat) : OpensL enc X.P w n 3 fun xs => ∃ i, xs = [.v (.int .i64 i)] ∧ -9223372036854775808 ≤ i ∧ i < 9223372036854775808 := o_i64 Try.underlying3 (by kernel_rfl) n
theorem o_42 : ∀ n, OpensL enc X.P w n 42 fun xs => ∃ m : Child, xs = m.cells ∧ True :=
  o_all fun n => (o_struct Try.underlying42 (.cons rfl (o_9 n) (.cons (by kernel_rfl) (o_9 n) .nil)) (by kernel_rfl)).mono fun xs h => by
    obtain ⟨x, y, rfl, ⟨l, rfl, h1⟩, ⟨i, rfl, h2⟩⟩ := Parts.two h
    exact ⟨⟨l, i⟩, rfl, trivial⟩
theorem o_22 : ∀ n, OpensL enc X.P w n 22 fun xs => ∃ l : List Child, xs = [.sl false (l.map Child.cells)] ∧ l.length * X.P.bytesOf 42 ≤ reachBytes ∧ l.length ≤ 9223372036854775807 ∧ ∀ a ∈ l, True :=
  o_all fun n => o_list Try.underlying22 (by kernel_rfl) (o_42 n)
theorem o_48 : ∀ n, OpensL enc X.P w n 48 fun xs => ∃ m : Space, xs = m.cells ∧ m.kids.length ≤ 9223372036854775807 :=
  o_all fun n => (o_struct Try.underlying48 (.cons rfl (o_9 n) (.cons (by kernel_rfl) (o_22 n) .nil)) (by kernel_rfl)).mono fun xs h => by
    obtain ⟨x, y, rfl, ⟨l, rfl, h1⟩, ⟨i, rfl, h2, h3, _⟩⟩ := Parts.two h
    exact ⟨⟨l, i⟩, rfl, h3⟩
theorem o_28 : ∀ n, OpensL enc X.P w n 28 fun xs => ∃ l : List Space, xs = [.sl false (l.map Space.cells)] ∧ l.length * X.P.bytesOf 48 ≤ reachBytes ∧ l.length ≤ 9223372036854775807 ∧ ∀ a ∈ l, a.kids.length ≤ 9223372036854775807 :=
  o_all fun n => o_list Try.underlying28 (by kernel_rfl) (o_48 n)
theorem o_29 : ∀ n, OpensL enc X.P w n 29 fun xs => ∃ a c : Int, xs = [.v (.int .i64 a), .v (.int .i64 c)] ∧ (-9223372036854775808 ≤ a ∧ a < 9223372036854775808) ∧ (-9223372036854775808 ≤ c ∧ c < 9223372036854775808) :=
  o_all fun n => (o_array Try.underlying29 (o_3 n) (by kernel_rfl)).mono fun xs h => by
    obtain ⟨x, y, rfl, ⟨l, rfl, h1⟩, ⟨m, rfl, h2⟩⟩ := Parts.two h
    exact ⟨l, m, rfl, h1, h2⟩
end
end Go.Proofs.Ytloobmklfjhfpaa
