/-
  The kit's contracts of maps.Keys and slices.Sorted at this program.
-/
import Derived.Shelf.SlIter.Nil
import Derived.Ground.GgzProg
import Derived.Shelf.SlGeneric
import Derived.Test.YtpdfgmedbphmkaaGreatDoorProg
import Derived.Test.YtpdfgmedbphmkaaGreatDoorTy
import Derived.Test.YtpdfgmedbphmkaaGreatDoorLibS
import Derived.Test.YtpdfgmedbphmkaaGreatDoorAL2
namespace Go.Proofs
open Go.RowKit Go.Maps Go.Sort Go.Shelf
def Tryz.keys39_ren : Go.Shelf.Ren := ⟨fun | 7 => 39 | 10 => 51 | n => n, fun | 23 => 53 | 26 => 9 | 3 => 49 | 28 => 70 | 0 => 0 | 27 => 69 | 33 => 78 | 4 => 4 | n => n, fun | n => n⟩
theorem Tryz.keys39 : Go.Proofs.SlLaysZ.n7 Tryz.prog Tryz.keys39_ren := {
  mixed := by kernel_rfl
  f7 := ⟨Tryz.f39.name, by decide, Tryz.func39.trans (congrArg some (by kernel_rfl))⟩
  f10 := ⟨Tryz.f51.name, by decide, Tryz.func51.trans (congrArg some (by kernel_rfl))⟩
  t0 := Tryz.underlying0
  a0 := Tryz.isAgg0
  z0 := Tryz.sizeOf0
  v0 := Tryz.zeroValue0
  t4 := Tryz.underlying4
  a4 := Tryz.isAgg4
  z4 := Tryz.sizeOf4
  v4 := Tryz.zeroValue4
  t23 := Tryz.underlying53
  a23 := Tryz.isAgg53
  z23 := Tryz.sizeOf53
  v23 := Tryz.zeroValue53
  t26 := Tryz.underlying9
  a26 := Tryz.isAgg9
  z26 := Tryz.sizeOf9
  v26 := Tryz.zeroValue9
  t27 := Tryz.underlying69
  a27 := Tryz.isAgg69
  z27 := Tryz.sizeOf69
  v27 := Tryz.zeroValue69
  t28 := Tryz.underlying70
  a28 := Tryz.isAgg70
  z28 := Tryz.sizeOf70
  v28 := Tryz.zeroValue70
  t33 := Tryz.underlying78
  a33 := Tryz.isAgg78
  z33 := Tryz.sizeOf78
  v33 := Tryz.zeroValue78 }
def Tryz.sorted38_ren : Go.Shelf.Ren := ⟨fun | 6 => 38 | 8 => 49 | 9 => 50 | 11 => 64 | 13 => 66 | 12 => 65 | 23 => 86 | 24 => 87 | 14 => 77 | 15 => 78 | 16 => 79 | 17 => 80 | 18 => 81 | 19 => 82 | 20 => 83 | 21 => 84 | 22 => 85 | 25 => 101 | 26 => 102 | 27 => 103 | 28 => 104 | 29 => 105 | 30 => 106 | 31 => 115 | n => n, fun | 26 => 9 | 28 => 70 | 24 => 22 | 0 => 0 | 3 => 3 | 37 => 89 | 48 => 112 | 50 => 114 | 4 => 4 | 40 => 104 | 39 => 103 | 45 => 109 | 5 => 5 | 9 => 9 | 51 => 122 | 55 => 126 | 57 => 132 | 58 => 99 | 33 => 78 | n => n, fun | n => n⟩
theorem Tryz.sorted38 : Go.Proofs.SlLaysZ.n6 Tryz.prog Tryz.sorted38_ren := {
  mixed := by kernel_rfl
  f6 := ⟨Tryz.f38.name, by decide, Tryz.func38.trans (congrArg some (by kernel_rfl))⟩
  f8 := ⟨Tryz.f49.name, by decide, Tryz.func49.trans (congrArg some (by kernel_rfl))⟩
  f11 := ⟨Tryz.f64.name, by decide, Tryz.func64.trans (congrArg some (by kernel_rfl))⟩
  t0 := Tryz.underlying0
  a0 := Tryz.isAgg0
  z0 := Tryz.sizeOf0
  v0 := Tryz.zeroValue0
  t24 := Tryz.underlying22
  a24 := Tryz.isAgg22
  z24 := Tryz.sizeOf22
  v24 := Tryz.zeroValue22
  t26 := Tryz.underlying9
  a26 := Tryz.isAgg9
  z26 := Tryz.sizeOf9
  v26 := Tryz.zeroValue9
  t28 := Tryz.underlying70
  a28 := Tryz.isAgg70
  z28 := Tryz.sizeOf70
  v28 := Tryz.zeroValue70
  i26 := by kernel_rfl }

theorem Tryz.sorts38 (m : Nat) : AnyZ.SortsIn Tryz.prog Tryz.sorted38_ren Fence.wide m :=
  ⟨fun blk off cap ss W hH hblk hsz => callsIn_wide.2 (Tryz.slices_Sort_string blk off cap ss W hH hblk hsz), fun p cap W => callsIn_wide.2 (Tryz.slices_Sort_string_none p cap W)⟩
theorem Tryz.sortedKeys : Go.AL.SortedKeys Tryz.prog 38 51 9 := fun W Bm b nn D0 R hlt hcell hown hmax hbytes => by
  have hseq : SeqGives Fence.wide 2 Tryz.prog 51 #[.pointer (some ⟨Bm, 0, none⟩)] encStr (fun ss => ss.Perm (strKeys D0)) (Maps.size D0) W :=
    AnyZ.keys_gives (ρ := Tryz.keys39_ren) { Tryz.keys39 with } Fence.wide _ trivial rfl (by omega) Bm b nn D0 W hlt hcell hown
  exact callsIn_wide.1 (AnyZ.sorted_in Tryz.sorted38 Fence.wide 5 trivial trivial trivial trivial rfl (by omega) (Tryz.sorts38 _) (enters_of Tryz.func50 (by kernel_rfl) rfl) 51 #[.pointer (some ⟨Bm, 0, none⟩)] trivial (enters_of Tryz.func51 (by kernel_rfl) rfl) _ _ hmax hbytes _ hseq)
end Go.Proofs
