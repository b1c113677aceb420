/-
  What every row of this seat needs: the arguments opened.
-/
import Derived.Test.YtbepggmidagbiaaRows
import Derived.HandedShaped
import Derived.RowKit
import Derived.Test.YtbepggmidagbiaaAL2
import Derived.Test.YtbepggmidagbiaaA
set_option linter.unusedSimpArgs false
set_option linter.unusedVariables false
set_option maxRecDepth 100000
namespace Go.Proofs.Ytbepggmidagbiaa
open Go Go.AL Go.RowKit Go.ChangeShapes

theorem own : ownKnob Try.prog.godebug = none := by kernel_rfl
theorem laidOut : laidOutB Try.prog = true := by kernel_rfl
theorem maxCell {W : World} (h : W.ShapedOpen Try.prog) : X.Γ (Fz W (phi0 W)) := trivial
def I64 (i : Int) : Prop := -9223372036854775808 ≤ i ∧ i < 9223372036854775808
section
variable {H : Type} {enc : TypeId × Value → H} {w : World}
theorem o_3 (n : Nat) : OpensL enc X.P w n 3 fun xs => ∃ i, xs = intCells i ∧ I64 i := o_i64 Try.underlying3 (by kernel_rfl) n
theorem o_2 (n : Nat) : OpensL enc X.P w n 2 fun xs => ∃ i, xs = intCells i ∧ I64 i := o_i64 Try.underlying2 (by kernel_rfl) n
theorem o_25 : ∀ n, OpensL enc X.P w n 25 fun xs => ∃ l : List Int, xs = rowCells l ∧ (l.length ≤ 9223372036854775807 ∧ ∀ a ∈ l, I64 a) :=
  o_all fun n => (o_list Try.underlying25 (by kernel_rfl) (o_3 n)).mono fun xs h => by
    obtain ⟨l, rfl, _, h2, h3⟩ := h
    exact ⟨l, rfl, h2, h3⟩
theorem o_23 : ∀ n, OpensL enc X.P w n 23 fun xs => ∃ l : List Int, xs = [.sl false (l.map intCells)] ∧ l.length ≤ 9223372036854775807 ∧ ∀ a ∈ l, I64 a :=
  o_all fun n => (o_list Try.underlying23 (by kernel_rfl) (o_2 n)).mono fun xs h => by
    obtain ⟨l, rfl, _, h2, h3⟩ := h
    exact ⟨l, rfl, h2, h3⟩
theorem o_22 : ∀ n, OpensL enc X.P w n 22 fun xs => ∃ l : List (List Int), xs = [.sl false (l.map rowCells)] ∧ l.length ≤ 9223372036854775807 ∧ ∀ r ∈ l, r.length ≤ 9223372036854775807 ∧ ∀ a ∈ r, I64 a :=
  o_all fun n => (o_list Try.underlying22 (by kernel_rfl) (o_25 n)).mono fun xs h => by
    obtain ⟨l, rfl, _, h2, h3⟩ := h
    exact ⟨l, rfl, h2, h3⟩
end
end Go.Proofs.Ytbepggmidagbiaa
