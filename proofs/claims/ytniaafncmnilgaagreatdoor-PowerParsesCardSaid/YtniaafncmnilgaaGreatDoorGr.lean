/-
  Contracts of the library, laid at this program.
-/
import Derived.Shelf.SlGeneric
import Derived.Test.YtniaafncmnilgaaGreatDoorProg
import Derived.Shelf.Spec.SlicesGrow
import Derived.Ground.Names8Prog
import Derived.Test.YtniaafncmnilgaaGreatDoorTy
import Derived.Test.YtniaafncmnilgaaGreatDoorAL4
namespace Go.Proofs
open Go.Shelf
def Tryz.grow83_ren : Go.Shelf.Ren := ⟨fun | 4 => 83 | n => n, fun | 22 => 27 | 25 => 58 | 3 => 3 | 4 => 4 | 9 => 9 | 20 => 20 | 0 => 0 | n => n, fun | n => n⟩
theorem Tryz.grow83 : Go.Proofs.Lays8.n4 Tryz.prog Tryz.grow83_ren := {
  mixed := by kernel_rfl
  f4 := ⟨Tryz.f83.name, by decide, Tryz.func83.trans (congrArg some (by kernel_rfl))⟩
  t0 := Tryz.underlying0
  a0 := Tryz.isAgg0
  z0 := Tryz.sizeOf0
  v0 := Tryz.zeroValue0
  t3 := Tryz.underlying3
  a3 := Tryz.isAgg3
  z3 := Tryz.sizeOf3
  v3 := Tryz.zeroValue3
  t4 := Tryz.underlying4
  a4 := Tryz.isAgg4
  z4 := Tryz.sizeOf4
  v4 := Tryz.zeroValue4
  t9 := Tryz.underlying9
  a9 := Tryz.isAgg9
  z9 := Tryz.sizeOf9
  v9 := Tryz.zeroValue9
  t20 := Tryz.underlying20
  a20 := Tryz.isAgg20
  z20 := Tryz.sizeOf20
  v20 := Tryz.zeroValue20
  t22 := Tryz.underlying27
  a22 := Tryz.isAgg27
  z22 := Tryz.sizeOf27
  v22 := Tryz.zeroValue27 }
namespace YtniaafncmnilgaaGreatDoor
open Go.AL
theorem growNm_c {T e : TypeId} {sz by_ : Nat} (hT : elT X.P T = some (e, sz, by_)) (he : e = Tryz.grow83_ren.t 25) (n : Nat) (hn : n * by_ ≤ 140737488355328) (h63 : n ≤ 4611686018427387904) {H : AHeap} {K : AV → AHeap → Prop} (h : ∀ s L, Gr e sz H [] s L → K s L) : ACall X 83 [.sl true [], .v (.int .i64 n)] H K :=
  ACall_grow0 (X := X) (ρ := Tryz.grow83_ren) Tryz.grow83 rfl (by kernel_rfl) hT he n hn h63 h
end YtniaafncmnilgaaGreatDoor
end Go.Proofs
