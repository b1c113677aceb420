/-
  The kit's contracts of maps.Keys and slices.Sorted at this program.
-/
import Derived.Shelf.SlIter.Nil
import Derived.Ground.GgzProg
import Derived.Shelf.SlGeneric
import Derived.Test.YtpdfgmedbphmkaaDoorProg
import Derived.Test.YtpdfgmedbphmkaaDoorTy
import Derived.Test.YtpdfgmedbphmkaaDoorLibS
import Derived.Test.YtpdfgmedbphmkaaDoorAL2
namespace Go.Proofs
open Go.RowKit Go.Maps Go.Sort Go.Shelf
def Tryd.keys29_ren : Go.Shelf.Ren := ⟨fun | 7 => 29 | 10 => 38 | n => n, fun | 23 => 38 | 26 => 9 | 3 => 24 | 28 => 64 | 0 => 0 | 27 => 63 | 33 => 71 | 4 => 4 | n => n, fun | n => n⟩
theorem Tryd.keys29 : Go.Proofs.SlLaysZ.n7 Tryd.prog Tryd.keys29_ren := {
  mixed := by kernel_rfl
  f7 := ⟨Tryd.f29.name, by decide, Tryd.func29.trans (congrArg some (by kernel_rfl))⟩
  f10 := ⟨Tryd.f38.name, by decide, Tryd.func38.trans (congrArg some (by kernel_rfl))⟩
  t0 := Tryd.underlying0
  a0 := Tryd.isAgg0
  z0 := Tryd.sizeOf0
  v0 := Tryd.zeroValue0
  t4 := Tryd.underlying4
  a4 := Tryd.isAgg4
  z4 := Tryd.sizeOf4
  v4 := Tryd.zeroValue4
  t23 := Tryd.underlying38
  a23 := Tryd.isAgg38
  z23 := Tryd.sizeOf38
  v23 := Tryd.zeroValue38
  t26 := Tryd.underlying9
  a26 := Tryd.isAgg9
  z26 := Tryd.sizeOf9
  v26 := Tryd.zeroValue9
  t27 := Tryd.underlying63
  a27 := Tryd.isAgg63
  z27 := Tryd.sizeOf63
  v27 := Tryd.zeroValue63
  t28 := Tryd.underlying64
  a28 := Tryd.isAgg64
  z28 := Tryd.sizeOf64
  v28 := Tryd.zeroValue64
  t33 := Tryd.underlying71
  a33 := Tryd.isAgg71
  z33 := Tryd.sizeOf71
  v33 := Tryd.zeroValue71 }
def Tryd.sorted28_ren : Go.Shelf.Ren := ⟨fun | 6 => 28 | 8 => 36 | 9 => 37 | 11 => 48 | 13 => 50 | 12 => 49 | 23 => 68 | 24 => 69 | 14 => 59 | 15 => 60 | 16 => 61 | 17 => 62 | 18 => 63 | 19 => 64 | 20 => 65 | 21 => 66 | 22 => 67 | 25 => 80 | 26 => 81 | 27 => 82 | 28 => 83 | 29 => 84 | 30 => 85 | 31 => 93 | n => n, fun | 26 => 9 | 28 => 64 | 24 => 31 | 0 => 0 | 3 => 3 | 37 => 81 | 48 => 101 | 50 => 103 | 4 => 4 | 40 => 93 | 39 => 92 | 45 => 98 | 5 => 5 | 9 => 9 | 51 => 110 | 55 => 114 | 57 => 120 | 58 => 121 | 33 => 71 | n => n, fun | n => n⟩
theorem Tryd.sorted28 : Go.Proofs.SlLaysZ.n6 Tryd.prog Tryd.sorted28_ren := {
  mixed := by kernel_rfl
  f6 := ⟨Tryd.f28.name, by decide, Tryd.func28.trans (congrArg some (by kernel_rfl))⟩
  f8 := ⟨Tryd.f36.name, by decide, Tryd.func36.trans (congrArg some (by kernel_rfl))⟩
  f11 := ⟨Tryd.f48.name, by decide, Tryd.func48.trans (congrArg some (by kernel_rfl))⟩
  t0 := Tryd.underlying0
  a0 := Tryd.isAgg0
  z0 := Tryd.sizeOf0
  v0 := Tryd.zeroValue0
  t24 := Tryd.underlying31
  a24 := Tryd.isAgg31
  z24 := Tryd.sizeOf31
  v24 := Tryd.zeroValue31
  t26 := Tryd.underlying9
  a26 := Tryd.isAgg9
  z26 := Tryd.sizeOf9
  v26 := Tryd.zeroValue9
  t28 := Tryd.underlying64
  a28 := Tryd.isAgg64
  z28 := Tryd.sizeOf64
  v28 := Tryd.zeroValue64
  i26 := by kernel_rfl }

theorem Tryd.sorts28 (m : Nat) : AnyZ.SortsIn Tryd.prog Tryd.sorted28_ren Fence.wide m :=
  ⟨fun blk off cap ss W hH hblk hsz => callsIn_wide.2 (Tryd.slices_Sort_string blk off cap ss W hH hblk hsz), fun p cap W => callsIn_wide.2 (Tryd.slices_Sort_string_none p cap W)⟩
theorem Tryd.sortedKeys : Go.AL.SortedKeys Tryd.prog 28 38 9 := fun W Bm b nn D0 R hlt hcell hown hmax hbytes => by
  have hseq : SeqGives Fence.wide 2 Tryd.prog 38 #[.pointer (some ⟨Bm, 0, none⟩)] encStr (fun ss => ss.Perm (strKeys D0)) (Maps.size D0) W :=
    AnyZ.keys_gives (ρ := Tryd.keys29_ren) { Tryd.keys29 with } Fence.wide _ trivial rfl (by omega) Bm b nn D0 W hlt hcell hown
  exact callsIn_wide.1 (AnyZ.sorted_in Tryd.sorted28 Fence.wide 5 trivial trivial trivial trivial rfl (by omega) (Tryd.sorts28 _) (enters_of Tryd.func37 (by kernel_rfl) rfl) 38 #[.pointer (some ⟨Bm, 0, none⟩)] trivial (enters_of Tryd.func38 (by kernel_rfl) rfl) _ _ hmax hbytes _ hseq)
end Go.Proofs
