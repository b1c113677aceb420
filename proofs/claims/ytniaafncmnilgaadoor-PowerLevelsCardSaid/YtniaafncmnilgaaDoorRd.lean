/-
  What the row of PowerLevels needs beside: a bool opened.
-/
import Derived.Test.YtniaafncmnilgaaDoorR
import Derived.Test.YtniaafncmnilgaaDoorL10D
set_option linter.unusedVariables false
namespace Go.Proofs.YtniaafncmnilgaaDoor
open Go Go.AL
theorem o_4 {H : Type} {enc : TypeId × Value → H} {w : World} (n : Nat) : OpensL enc X.P w n 4 fun xs => ∃ b, xs = [.v (.bool b)] := o_bool Tryd.underlying4 (by kernel_rfl) n
end Go.Proofs.YtniaafncmnilgaaDoor
