/-
  Contracts of the library, laid at this program.
-/
import Derived.Shelf.SlGeneric
import Derived.Test.YtniaafncmnilgaaDoorProg
import Derived.Shelf.Spec.SlicesGrow
import Derived.Ground.Names8Prog
import Derived.Test.YtniaafncmnilgaaDoorTy
import Derived.Test.YtniaafncmnilgaaDoorAL4
namespace Go.Proofs
open Go.Shelf
def Tryd.grow58_ren : Go.Shelf.Ren := ⟨fun | 4 => 58 | n => n, fun | 22 => 22 | 25 => 32 | 3 => 3 | 4 => 4 | 9 => 9 | 20 => 20 | 0 => 0 | n => n, fun | n => n⟩
theorem Tryd.grow58 : Go.Proofs.Lays8.n4 Tryd.prog Tryd.grow58_ren := {
  mixed := by kernel_rfl
  f4 := ⟨Tryd.f58.name, by decide, Tryd.func58.trans (congrArg some (by kernel_rfl))⟩
  t0 := Tryd.underlying0
  a0 := Tryd.isAgg0
  z0 := Tryd.sizeOf0
  v0 := Tryd.zeroValue0
  t3 := Tryd.underlying3
  a3 := Tryd.isAgg3
  z3 := Tryd.sizeOf3
  v3 := Tryd.zeroValue3
  t4 := Tryd.underlying4
  a4 := Tryd.isAgg4
  z4 := Tryd.sizeOf4
  v4 := Tryd.zeroValue4
  t9 := Tryd.underlying9
  a9 := Tryd.isAgg9
  z9 := Tryd.sizeOf9
  v9 := Tryd.zeroValue9
  t20 := Tryd.underlying20
  a20 := Tryd.isAgg20
  z20 := Tryd.sizeOf20
  v20 := Tryd.zeroValue20
  t22 := Tryd.underlying22
  a22 := Tryd.isAgg22
  z22 := Tryd.sizeOf22
  v22 := Tryd.zeroValue22 }
namespace YtniaafncmnilgaaDoor
open Go.AL
theorem growNm_c {T e : TypeId} {sz by_ : Nat} (hT : elT X.P T = some (e, sz, by_)) (he : e = Tryd.grow58_ren.t 25) (n : Nat) (hn : n * by_ ≤ 140737488355328) (h63 : n ≤ 4611686018427387904) {H : AHeap} {K : AV → AHeap → Prop} (h : ∀ s L, Gr e sz H [] s L → K s L) : ACall X 58 [.sl true [], .v (.int .i64 n)] H K :=
  ACall_grow0 (X := X) (ρ := Tryd.grow58_ren) Tryd.grow58 rfl (by kernel_rfl) hT he n hn h63 h
end YtniaafncmnilgaaDoor
end Go.Proofs
