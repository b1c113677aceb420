/-
  What rows need beside: marks opened.
-/
import Derived.Test.YtpdfgmedbphmkaaDoorR0
import Derived.Test.YtpdfgmedbphmkaaDoorW26I
set_option linter.unusedVariables false
namespace Go.Proofs.YtpdfgmedbphmkaaDoor
open Go Go.AL Go.RowKit Go.ChangeShapes Go.WideShapes Go.Proofs
def MarkOk (m : Mark) : Prop := m.user.length ≤ reachBytes ∧ (-9223372036854775808 ≤ m.at_ ∧ m.at_ < 9223372036854775808) ∧ (-9223372036854775808 ≤ m.ts ∧ m.ts < 9223372036854775808)
section
variable {H : Type} {enc : TypeId × Value → H} {w : World}
theorem o_ms (n : Nat) : OpensL enc X.P w n 9 fun xs => ∃ l : List UInt8, xs = bytesCells l ∧ l.length ≤ reachBytes := o_str Tryd.underlying9 (by kernel_rfl) n
theorem o_mi (n : Nat) : OpensL enc X.P w n 2 fun xs => ∃ i, xs = [.v (.int .i64 i)] ∧ -9223372036854775808 ≤ i ∧ i < 9223372036854775808 := o_i64 Tryd.underlying2 (by kernel_rfl) n
theorem o_mark : ∀ n, OpensL enc X.P w n 24 fun xs => ∃ m : Mark, xs = m.cells ∧ MarkOk m :=
  o_all fun n => (o_struct Tryd.underlying24 (.cons rfl (o_ms n) (.cons (by kernel_rfl) (o_mi n) (.cons (by kernel_rfl) (o_mi n) .nil))) (by kernel_rfl)).mono fun xs h => by
    obtain ⟨x, y, z, rfl, ⟨l, rfl, h1⟩, ⟨i, rfl, h2⟩, ⟨j, rfl, h3⟩⟩ := h.three
    exact ⟨⟨l, i, j⟩, rfl, h1, h2, h3⟩
theorem o_marks : ∀ n, OpensL enc X.P w n 22 fun xs => ∃ l : List Mark, xs = [.sl false (l.map Mark.cells)] ∧ l.length * X.P.bytesOf 24 ≤ reachBytes ∧ l.length ≤ 9223372036854775807 ∧ ∀ a ∈ l, MarkOk a :=
  o_all fun n => o_list Tryd.underlying22 (by kernel_rfl) (o_mark n)
end
end Go.Proofs.YtpdfgmedbphmkaaDoor
