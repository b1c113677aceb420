/-
  Contracts of the library, laid at this program.
-/
import Derived.Shelf.SlGeneric
import Derived.Test.YtmloandpjbimkaaProg
import Derived.Shelf.Small.Strs
import Derived.Ground.NamesProg
import Derived.Test.YtmloandpjbimkaaTy
import Derived.Test.YtmloandpjbimkaaAL4
namespace Go.Proofs
open Go.Shelf
def Try.idx62_ren : Go.Shelf.Ren := ⟨fun | 137 => 62 | 217 => 78 | 266 => 94 | n => n, fun | 9 => 9 | 5 => 5 | 3 => 3 | n => n, fun | n => n⟩
theorem Try.idx62 : Go.Proofs.Lays.n137 Try.prog Try.idx62_ren := {
  mixed := by kernel_rfl
  f137 := Try.func62.trans (congrArg some (by kernel_rfl))
  f217 := Try.func78.trans (congrArg some (by kernel_rfl))
  f266 := Try.func94.trans (congrArg some (by kernel_rfl))
  t3 := Try.underlying3
  a3 := Try.isAgg3
  z3 := Try.sizeOf3
  v3 := Try.zeroValue3
  t5 := Try.underlying5
  a5 := Try.isAgg5
  z5 := Try.sizeOf5
  v5 := Try.zeroValue5
  t9 := Try.underlying9
  a9 := Try.isAgg9
  z9 := Try.sizeOf9
  v9 := Try.zeroValue9 }
namespace Ytmloandpjbimkaa
open Go.AL
theorem indexByte_c (l : List UInt8) (c : Int) (H : AHeap) (K : AV → AHeap → Prop) (h : K (.v (.int .i64 (Lib.indexByte l c.toNat.toUInt8))) H) : ACall X 62 [.s l, .v (.int .u8 c)] H K :=
  ACall_same (by kernel_rfl) h fun w φ xs hr hx => by
    cases hx with
    | cons h1 h2 =>
      cases h2 with
      | cons h2 h3 =>
        cases h3
        cases h1 with
        | s b =>
          cases h2
          exact ⟨_, .v _, (Any.strings_IndexByte Try.idx62 b c w).mono fun e w' ⟨he, hw⟩ => ⟨he, 0, hw⟩⟩
end Ytmloandpjbimkaa
end Go.Proofs
