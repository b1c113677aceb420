/-
  What every row of this seat needs: the arguments opened.
-/
import Derived.Test.YtpdfgmedbphmkaaRows
import Derived.HandedShaped
import Derived.RowKit
import Derived.Test.YtpdfgmedbphmkaaAL2
import Derived.Test.YtpdfgmedbphmkaaC
import Derived.Test.YtpdfgmedbphmkaaLib
set_option linter.unusedSimpArgs false
set_option linter.unusedVariables false
set_option maxRecDepth 100000
namespace Go.Proofs.Ytpdfgmedbphmkaa
open Go Go.AL Go.RowKit Go.ChangeShapes

theorem own : ownKnob Try.prog.godebug = none := by kernel_rfl
theorem laidOut : laidOutB Try.prog = true := by kernel_rfl
theorem maxCell {W : World} (h : W.ShapedOpen Try.prog) : X.Γ (Fz W (phi0 W)) := by
  obtain ⟨m, hm⟩ := Try.laysM219.s1_3 W h
  exact ⟨m, fz0 hm⟩
def MarkOk (m : Mark) : Prop := m.user.length ≤ reachBytes ∧ (-9223372036854775808 ≤ m.at_ ∧ m.at_ < 9223372036854775808) ∧ (-9223372036854775808 ≤ m.ts ∧ m.ts < 9223372036854775808)
section
variable {H : Type} {enc : TypeId × Value → H} {w : World}
theorem o_9 (n : Nat) : OpensL enc X.P w n 9 fun xs => ∃ l : List UInt8, xs = bytesCells l ∧ l.length ≤ reachBytes := o_str Try.underlying9 (by kernel_rfl) n
theorem o_2 (n : Nat) : OpensL enc X.P w n 2 fun xs => ∃ i, xs = [.v (.int .i64 i)] ∧ -9223372036854775808 ≤ i ∧ i < 9223372036854775808 := o_i64 Try.underlying2 (by kernel_rfl) n
theorem o_24 : ∀ n, OpensL enc X.P w n 24 fun xs => ∃ l : List (List UInt8), xs = [.sl false (l.map bytesCells)] ∧ l.length * X.P.bytesOf 9 ≤ reachBytes ∧ l.length ≤ 9223372036854775807 ∧ ∀ a ∈ l, a.length ≤ reachBytes :=
  o_all fun n => o_list Try.underlying24 (by kernel_rfl) (o_9 n)
theorem o_31 : ∀ n, OpensL enc X.P w n 31 fun xs => ∃ m : Mark, xs = m.cells ∧ MarkOk m :=
  o_all fun n => (o_struct Try.underlying31 (.cons rfl (o_9 n) (.cons (by kernel_rfl) (o_2 n) (.cons (by kernel_rfl) (o_2 n) .nil))) (by kernel_rfl)).mono fun xs h => by
    obtain ⟨x, y, z, rfl, ⟨l, rfl, h1⟩, ⟨i, rfl, h2⟩, ⟨j, rfl, h3⟩⟩ := h.three
    exact ⟨⟨l, i, j⟩, rfl, h1, h2, h3⟩
theorem o_22 : ∀ n, OpensL enc X.P w n 22 fun xs => ∃ l : List Mark, xs = [.sl false (l.map Mark.cells)] ∧ l.length * X.P.bytesOf 31 ≤ reachBytes ∧ l.length ≤ 9223372036854775807 ∧ ∀ a ∈ l, MarkOk a :=
  o_all fun n => o_list Try.underlying22 (by kernel_rfl) (o_31 n)
theorem o_23 : ∀ n, OpensL enc X.P w n 23 fun xs => ∃ a c : List UInt8, xs = [.s a, .s c] ∧ a.length ≤ reachBytes ∧ c.length ≤ reachBytes :=
  o_all fun n => (o_array Try.underlying23 (o_9 n) (by kernel_rfl)).mono fun xs h => by
    obtain ⟨x, y, rfl, ⟨l, rfl, h1⟩, ⟨m, rfl, h2⟩⟩ := Parts.two h
    exact ⟨l, m, rfl, h1, h2⟩
end
end Go.Proofs.Ytpdfgmedbphmkaa
