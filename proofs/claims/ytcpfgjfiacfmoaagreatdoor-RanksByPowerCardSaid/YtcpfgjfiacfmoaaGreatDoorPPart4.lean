/-
  The facts of this program's types, in short: each by the kernel's own reckoning. Printed by a program.
-/
import Derived.Test.YtcpfgjfiacfmoaaGreatDoorProg
import Derived.Test.YtcpfgjfiacfmoaaGreatDoorPAL2
import Derived.Lib.ValidLaws
import Derived.KernelRfl
import Derived.Shelf.SlGeneric
import Derived.Shelf.Strings.Cut
import Derived.Shelf.LaysM
import Derived.Shelf.Strings.Shaped
import Derived.Shelf.Unicode.ValidAny
import Derived.Ground.NamesProg
import Derived.Shelf.Lays
import Derived.Test.YtcpfgjfiacfmoaaGreatDoorPAL4
import Derived.Test.YtcpfgjfiacfmoaaGreatDoorRows
import Derived.HandedShaped
import Derived.RowKit
import Derived.Lay
import Derived.LaidMore
import Derived.Lib.LaidU8T
import Derived.ProofKit
import Derived.Test.YtcpfgjfiacfmoaaGreatDoorPAL3
namespace Go.Proofs.YtcpfgjfiacfmoaaGreatDoor
open Go Go.AL

noncomputable def X : Ctx := ⟨Tryz.prog, fun F => (∃ m, F ⟨2, 0, none⟩ (.int .i64 m)) ∧ (∀ c, c < 256 → F ⟨0, c, none⟩ (.int .u8 (Lib.firstT c))) ∧ (∀ i, i < 16 → F ⟨1, 2 * i, none⟩ (.int .u8 (Lib.accLo i)) ∧ F ⟨1, 2 * i + 1, none⟩ (.int .u8 (Lib.accHi i))),
  fun _ _ h ⟨⟨m, k⟩, k1, k2⟩ => ⟨⟨m, h _ _ k⟩, fun c hc => h _ _ (k1 c hc), fun i hi => ⟨h _ _ (k2 i hi).1, h _ _ (k2 i hi).2⟩⟩, False⟩


theorem mixed : X.P.follows .mixedOrders = true := by kernel_rfl
theorem tk_2 : tk X.P 2 = (.int .i64) := by kernel_rfl
theorem lay_2 : lay X.P 2 = (some (false, 1)) := by kernel_rfl
theorem sz_2 : AL.sz? X.P 2 = (some 1) := by kernel_rfl
theorem zc_2 : zC X.P 2 = (some [(.v (.int .i64 (0)))]) := by kernel_rfl
theorem tk_3 : tk X.P 3 = (.int .i64) := by kernel_rfl
theorem lay_3 : lay X.P 3 = (some (false, 1)) := by kernel_rfl
theorem sz_3 : AL.sz? X.P 3 = (some 1) := by kernel_rfl
theorem zc_3 : zC X.P 3 = (some [(.v (.int .i64 (0)))]) := by kernel_rfl
theorem tk_4 : tk X.P 4 = .bool := by kernel_rfl
theorem lay_4 : lay X.P 4 = (some (false, 1)) := by kernel_rfl
theorem sz_4 : AL.sz? X.P 4 = (some 1) := by kernel_rfl
theorem zc_4 : zC X.P 4 = (some [(.v (.bool false))]) := by kernel_rfl
theorem tk_5 : tk X.P 5 = (.int .u8) := by kernel_rfl
theorem lay_5 : lay X.P 5 = (some (false, 1)) := by kernel_rfl
theorem sz_5 : AL.sz? X.P 5 = (some 1) := by kernel_rfl
theorem tk_9 : tk X.P 9 = .str := by kernel_rfl
theorem lay_9 : lay X.P 9 = (some (false, 1)) := by kernel_rfl
theorem sz_9 : AL.sz? X.P 9 = (some 1) := by kernel_rfl
theorem tk_12 : tk X.P 12 = (.int .u64) := by kernel_rfl
theorem lay_12 : lay X.P 12 = (some (false, 1)) := by kernel_rfl
theorem sz_12 : AL.sz? X.P 12 = (some 1) := by kernel_rfl
theorem tk_22 : tk X.P 22 = (.sl 9 (some 1)) := by kernel_rfl
theorem lay_22 : lay X.P 22 = (some (false, 1)) := by kernel_rfl
theorem sz_22 : AL.sz? X.P 22 = (some 1) := by kernel_rfl
theorem el_22 : elT X.P 22 = (some (9, (1, 16))) := by kernel_rfl
theorem tk_23 : tk X.P 23 = (.sl 25 (some 5)) := by kernel_rfl
theorem lay_23 : lay X.P 23 = (some (false, 1)) := by kernel_rfl
theorem sz_23 : AL.sz? X.P 23 = (some 1) := by kernel_rfl
theorem el_23 : elT X.P 23 = (some (25, (5, 80))) := by kernel_rfl
theorem tk_25 : tk X.P 25 = (.st [(some (0, (1, false))), (some (1, (1, false))), (some (2, (1, false))), (some (3, (1, false))), (some (4, (1, false)))]) := by kernel_rfl
theorem lay_25 : lay X.P 25 = (some (true, 5)) := by kernel_rfl
theorem sz_25 : AL.sz? X.P 25 = (some 5) := by kernel_rfl
theorem zc_25 : zC X.P 25 = (some [(.v (.int .i64 (0))), (.v (.int .i64 (0))), (.s []), (.sl true []), (.sl true [])]) := by kernel_rfl
theorem bt_25 : buildT X.P 25 = (some ([(.v (.int .i64 (0))), (.v (.int .i64 (0))), (.s []), (.sl true []), (.sl true [])], [(0, 1), (1, 1), (2, 1), (3, 1), (4, 1)])) := by kernel_rfl
theorem tk_26 : tk X.P 26 = (.sl 48 (some 2)) := by kernel_rfl
theorem lay_26 : lay X.P 26 = (some (false, 1)) := by kernel_rfl
theorem sz_26 : AL.sz? X.P 26 = (some 1) := by kernel_rfl
theorem tk_28 : tk X.P 28 = (.st [(some (0, (1, false))), (some (1, (1, false))), (some (2, (1, false))), (some (3, (1, false))), (some (4, (1, false))), (some (5, (5, true))), (some (10, (1, false))), (some (11, (1, false))), (some (12, (1, false))), (some (13, (1, false))), (some (14, (1, false))), (some (15, (1, false)))]) := by kernel_rfl
theorem lay_28 : lay X.P 28 = (some (true, 16)) := by kernel_rfl
theorem sz_28 : AL.sz? X.P 28 = (some 16) := by kernel_rfl
theorem zc_28 : zC X.P 28 = (some [(.s []), (.s []), (.s []), (.v (.bool false)), (.s []), (.v (.int .i64 (0))), (.v (.int .i64 (0))), (.s []), (.sl true []), (.sl true []), (.sl true []), (.sl true []), (.v (.int .i64 (0))), (.v (.int .i64 (0))), (.s []), (.sl true [])]) := by kernel_rfl
theorem bt_28 : buildT X.P 28 = (some ([(.s []), (.s []), (.s []), (.v (.bool false)), (.s []), (.v (.int .i64 (0))), (.v (.int .i64 (0))), (.s []), (.sl true []), (.sl true []), (.sl true []), (.sl true []), (.v (.int .i64 (0))), (.v (.int .i64 (0))), (.s []), (.sl true [])], [(0, 1), (1, 1), (2, 1), (3, 1), (4, 1), (5, 5), (10, 1), (11, 1), (12, 1), (13, 1), (14, 1), (15, 1)])) := by kernel_rfl
theorem tk_31 : tk X.P 31 = (.sl 28 (some 16)) := by kernel_rfl
theorem lay_31 : lay X.P 31 = (some (false, 1)) := by kernel_rfl
theorem sz_31 : AL.sz? X.P 31 = (some 1) := by kernel_rfl
theorem el_31 : elT X.P 31 = (some (28, (16, 256))) := by kernel_rfl
theorem tk_32 : tk X.P 32 = (.sl 38 (some 1)) := by kernel_rfl
theorem lay_32 : lay X.P 32 = (some (false, 1)) := by kernel_rfl
theorem sz_32 : AL.sz? X.P 32 = (some 1) := by kernel_rfl
theorem el_32 : elT X.P 32 = (some (38, (1, 24))) := by kernel_rfl
theorem tk_33 : tk X.P 33 = (.sl 4 (some 1)) := by kernel_rfl
theorem lay_33 : lay X.P 33 = (some (false, 1)) := by kernel_rfl
theorem sz_33 : AL.sz? X.P 33 = (some 1) := by kernel_rfl
theorem el_33 : elT X.P 33 = (some (4, (1, 1))) := by kernel_rfl
theorem tk_35 : tk X.P 35 = (.st [(some (0, (1, false))), (some (1, (1, false))), (some (2, (1, false))), (some (3, (1, false))), (some (4, (1, false)))]) := by kernel_rfl
theorem lay_35 : lay X.P 35 = (some (true, 5)) := by kernel_rfl
theorem sz_35 : AL.sz? X.P 35 = (some 5) := by kernel_rfl
theorem zc_35 : zC X.P 35 = (some [(.sl true []), (.sl true []), (.sl true []), (.sl true []), (.sl true [])]) := by kernel_rfl
theorem bt_35 : buildT X.P 35 = (some ([(.sl true []), (.sl true []), (.sl true []), (.sl true []), (.sl true [])], [(0, 1), (1, 1), (2, 1), (3, 1), (4, 1)])) := by kernel_rfl
theorem tk_38 : tk X.P 38 = (.sl 3 (some 1)) := by kernel_rfl
theorem lay_38 : lay X.P 38 = (some (false, 1)) := by kernel_rfl
theorem sz_38 : AL.sz? X.P 38 = (some 1) := by kernel_rfl
theorem zc_38 : zC X.P 38 = (some [(.sl true [])]) := by kernel_rfl
theorem el_38 : elT X.P 38 = (some (3, (1, 8))) := by kernel_rfl
theorem tk_48 : tk X.P 48 = (.st [(some (0, (1, false))), (some (1, (1, false)))]) := by kernel_rfl
theorem lay_48 : lay X.P 48 = (some (true, 2)) := by kernel_rfl
theorem sz_48 : AL.sz? X.P 48 = (some 2) := by kernel_rfl
theorem bt_48 : buildT X.P 48 = (some ([(.s []), (.s [])], [(0, 1), (1, 1)])) := by kernel_rfl
theorem tk_56 : tk X.P 56 = (.sl 98 (some 2)) := by kernel_rfl
theorem lay_56 : lay X.P 56 = (some (false, 1)) := by kernel_rfl
theorem sz_56 : AL.sz? X.P 56 = (some 1) := by kernel_rfl
theorem el_56 : elT X.P 56 = (some (98, (2, 24))) := by kernel_rfl
theorem tk_58 : tk X.P 58 = (.st [(some (0, (1, false))), (some (1, (1, false))), (some (2, (1, false))), (some (3, (1, false))), (some (4, (1, false))), (some (5, (1, false))), (some (6, (1, false))), (some (7, (1, false))), (some (8, (1, false)))]) := by kernel_rfl
theorem lay_58 : lay X.P 58 = (some (true, 9)) := by kernel_rfl
theorem sz_58 : AL.sz? X.P 58 = (some 9) := by kernel_rfl
theorem zc_58 : zC X.P 58 = (some [(.v (.int .i64 (0))), (.v (.int .i64 (0))), (.v (.int .i64 (0))), (.v (.int .i64 (0))), (.v (.int .i64 (0))), (.v (.int .i64 (0))), (.v (.int .i64 (0))), (.sl true []), (.sl true [])]) := by kernel_rfl
theorem bt_58 : buildT X.P 58 = (some ([(.v (.int .i64 (0))), (.v (.int .i64 (0))), (.v (.int .i64 (0))), (.v (.int .i64 (0))), (.v (.int .i64 (0))), (.v (.int .i64 (0))), (.v (.int .i64 (0))), (.sl true []), (.sl true [])], [(0, 1), (1, 1), (2, 1), (3, 1), (4, 1), (5, 1), (6, 1), (7, 1), (8, 1)])) := by kernel_rfl
theorem tk_59 : tk X.P 59 = (.int .i64) := by kernel_rfl
theorem lay_59 : lay X.P 59 = (some (false, 1)) := by kernel_rfl
theorem sz_59 : AL.sz? X.P 59 = (some 1) := by kernel_rfl
theorem tk_64 : tk X.P 64 = (.map 3 2) := by kernel_rfl
theorem lay_64 : lay X.P 64 = (some (false, 1)) := by kernel_rfl
theorem sz_64 : AL.sz? X.P 64 = (some 1) := by kernel_rfl
theorem zc_64 : zC X.P 64 = (some [(.v (.map none))]) := by kernel_rfl
theorem mp_64 : mapT X.P 64 = (some ((.int .i64), (some (.v (.int .i64 (0)))))) := by kernel_rfl
theorem tk_67 : tk X.P 67 = .func := by kernel_rfl
theorem lay_67 : lay X.P 67 = (some (false, 1)) := by kernel_rfl
theorem sz_67 : AL.sz? X.P 67 = (some 1) := by kernel_rfl
theorem tk_72 : tk X.P 72 = .func := by kernel_rfl
theorem lay_72 : lay X.P 72 = (some (false, 1)) := by kernel_rfl
theorem sz_72 : AL.sz? X.P 72 = (some 1) := by kernel_rfl
theorem tk_73 : tk X.P 73 = (.sl 2 (some 1)) := by kernel_rfl
theorem lay_73 : lay X.P 73 = (some (false, 1)) := by kernel_rfl
theorem sz_73 : AL.sz? X.P 73 = (some 1) := by kernel_rfl
theorem el_73 : elT X.P 73 = (some (2, (1, 8))) := by kernel_rfl
theorem tk_76 : tk X.P 76 = (.map 3 4) := by kernel_rfl
theorem lay_76 : lay X.P 76 = (some (false, 1)) := by kernel_rfl
theorem sz_76 : AL.sz? X.P 76 = (some 1) := by kernel_rfl
theorem mp_76 : mapT X.P 76 = (some ((.int .i64), (some (.v (.bool false))))) := by kernel_rfl
theorem tk_86 : tk X.P 86 = (.map 3 3) := by kernel_rfl
theorem lay_86 : lay X.P 86 = (some (false, 1)) := by kernel_rfl
theorem sz_86 : AL.sz? X.P 86 = (some 1) := by kernel_rfl
theorem mp_86 : mapT X.P 86 = (some ((.int .i64), (some (.v (.int .i64 (0)))))) := by kernel_rfl
theorem tk_91 : tk X.P 91 = .func := by kernel_rfl
theorem lay_91 : lay X.P 91 = (some (false, 1)) := by kernel_rfl
theorem sz_91 : AL.sz? X.P 91 = (some 1) := by kernel_rfl
theorem tk_98 : tk X.P 98 = (.st [(some (0, (1, false))), (some (1, (1, false)))]) := by kernel_rfl
theorem lay_98 : lay X.P 98 = (some (true, 2)) := by kernel_rfl
theorem sz_98 : AL.sz? X.P 98 = (some 2) := by kernel_rfl
theorem bt_98 : buildT X.P 98 = (some ([(.s []), (.v (.int .i64 (0)))], [(0, 1), (1, 1)])) := by kernel_rfl
theorem tk_101 : tk X.P 101 = .func := by kernel_rfl
theorem lay_101 : lay X.P 101 = (some (false, 1)) := by kernel_rfl
theorem sz_101 : AL.sz? X.P 101 = (some 1) := by kernel_rfl
theorem tk_105 : tk X.P 105 = (.int .u64) := by kernel_rfl
theorem lay_105 : lay X.P 105 = (some (false, 1)) := by kernel_rfl
theorem sz_105 : AL.sz? X.P 105 = (some 1) := by kernel_rfl
theorem tk_114 : tk X.P 114 = .ptr := by kernel_rfl
theorem lay_114 : lay X.P 114 = (some (false, 1)) := by kernel_rfl
theorem sz_114 : AL.sz? X.P 114 = (some 1) := by kernel_rfl
theorem tk_115 : tk X.P 115 = (.map 9 25) := by kernel_rfl
theorem lay_115 : lay X.P 115 = (some (false, 1)) := by kernel_rfl
theorem sz_115 : AL.sz? X.P 115 = (some 1) := by kernel_rfl
theorem mp_115 : mapT X.P 115 = (some (.str, (some (.agg [(.v (.int .i64 (0))), (.v (.int .i64 (0))), (.s []), (.sl true []), (.sl true [])])))) := by kernel_rfl
theorem tk_117 : tk X.P 117 = (.st [(some (0, (1, false))), (some (1, (1, false)))]) := by kernel_rfl
theorem lay_117 : lay X.P 117 = (some (true, 2)) := by kernel_rfl
theorem sz_117 : AL.sz? X.P 117 = (some 2) := by kernel_rfl
theorem bt_117 : buildT X.P 117 = (some ([(.v (.map none)), (.v (.bool false))], [(0, 1), (1, 1)])) := by kernel_rfl
theorem tk_120 : tk X.P 120 = .func := by kernel_rfl
theorem lay_120 : lay X.P 120 = (some (false, 1)) := by kernel_rfl
theorem sz_120 : AL.sz? X.P 120 = (some 1) := by kernel_rfl
theorem tk_125 : tk X.P 125 = (.int .i64) := by kernel_rfl
theorem lay_125 : lay X.P 125 = (some (false, 1)) := by kernel_rfl
theorem sz_125 : AL.sz? X.P 125 = (some 1) := by kernel_rfl
theorem tk_132 : tk X.P 132 = (.int .u32) := by kernel_rfl
theorem lay_132 : lay X.P 132 = (some (false, 1)) := by kernel_rfl
theorem sz_132 : AL.sz? X.P 132 = (some 1) := by kernel_rfl
theorem tk_134 : tk X.P 134 = (.int .u64) := by kernel_rfl
theorem lay_134 : lay X.P 134 = (some (false, 1)) := by kernel_rfl
theorem sz_134 : AL.sz? X.P 134 = (some 1) := by kernel_rfl
theorem tk_143 : tk X.P 143 = .func := by kernel_rfl
theorem lay_143 : lay X.P 143 = (some (false, 1)) := by kernel_rfl
theorem sz_143 : AL.sz? X.P 143 = (some 1) := by kernel_rfl
theorem tk_145 : tk X.P 145 = .func := by kernel_rfl
theorem lay_145 : lay X.P 145 = (some (false, 1)) := by kernel_rfl
theorem sz_145 : AL.sz? X.P 145 = (some 1) := by kernel_rfl
theorem tk_146 : tk X.P 146 = (.int .u64) := by kernel_rfl
theorem lay_146 : lay X.P 146 = (some (false, 1)) := by kernel_rfl
theorem sz_146 : AL.sz? X.P 146 = (some 1) := by kernel_rfl
theorem tk_150 : tk X.P 150 = .ptr := by kernel_rfl
theorem lay_150 : lay X.P 150 = (some (false, 1)) := by kernel_rfl
theorem sz_150 : AL.sz? X.P 150 = (some 1) := by kernel_rfl
theorem tk_169 : tk X.P 169 = (.arr 256 (some (1, false))) := by kernel_rfl
theorem lay_169 : lay X.P 169 = (some (true, 256)) := by kernel_rfl
theorem sz_169 : AL.sz? X.P 169 = (some 256) := by kernel_rfl
theorem tk_171 : tk X.P 171 = (.st [(some (0, (1, false))), (some (1, (1, false)))]) := by kernel_rfl
theorem lay_171 : lay X.P 171 = (some (true, 2)) := by kernel_rfl
theorem sz_171 : AL.sz? X.P 171 = (some 2) := by kernel_rfl
theorem bt_171 : buildT X.P 171 = (some ([(.v (.int .u8 (0))), (.v (.int .u8 (0)))], [(0, 1), (1, 1)])) := by kernel_rfl
theorem tk_172 : tk X.P 172 = (.arr 16 (some (2, true))) := by kernel_rfl
theorem lay_172 : lay X.P 172 = (some (true, 32)) := by kernel_rfl
theorem sz_172 : AL.sz? X.P 172 = (some 32) := by kernel_rfl
theorem tk_173 : tk X.P 173 = (.map 9 4) := by kernel_rfl
theorem lay_173 : lay X.P 173 = (some (false, 1)) := by kernel_rfl
theorem sz_173 : AL.sz? X.P 173 = (some 1) := by kernel_rfl
theorem mp_173 : mapT X.P 173 = (some (.str, (some (.v (.bool false))))) := by kernel_rfl
theorem us_2 : (X.P.underlying 2).isSome = true := by kernel_rfl
theorem us_3 : (X.P.underlying 3).isSome = true := by kernel_rfl
theorem us_4 : (X.P.underlying 4).isSome = true := by kernel_rfl
theorem us_5 : (X.P.underlying 5).isSome = true := by kernel_rfl
theorem us_9 : (X.P.underlying 9).isSome = true := by kernel_rfl
theorem us_12 : (X.P.underlying 12).isSome = true := by kernel_rfl
theorem us_22 : (X.P.underlying 22).isSome = true := by kernel_rfl
theorem us_23 : (X.P.underlying 23).isSome = true := by kernel_rfl
theorem us_25 : (X.P.underlying 25).isSome = true := by kernel_rfl
theorem us_26 : (X.P.underlying 26).isSome = true := by kernel_rfl
theorem us_28 : (X.P.underlying 28).isSome = true := by kernel_rfl
theorem us_31 : (X.P.underlying 31).isSome = true := by kernel_rfl
theorem us_32 : (X.P.underlying 32).isSome = true := by kernel_rfl
theorem us_33 : (X.P.underlying 33).isSome = true := by kernel_rfl
theorem us_35 : (X.P.underlying 35).isSome = true := by kernel_rfl
theorem us_38 : (X.P.underlying 38).isSome = true := by kernel_rfl
theorem us_48 : (X.P.underlying 48).isSome = true := by kernel_rfl
theorem us_56 : (X.P.underlying 56).isSome = true := by kernel_rfl
theorem us_58 : (X.P.underlying 58).isSome = true := by kernel_rfl
theorem us_59 : (X.P.underlying 59).isSome = true := by kernel_rfl
theorem us_64 : (X.P.underlying 64).isSome = true := by kernel_rfl
theorem us_67 : (X.P.underlying 67).isSome = true := by kernel_rfl
theorem us_72 : (X.P.underlying 72).isSome = true := by kernel_rfl
theorem us_73 : (X.P.underlying 73).isSome = true := by kernel_rfl
theorem us_76 : (X.P.underlying 76).isSome = true := by kernel_rfl
theorem us_86 : (X.P.underlying 86).isSome = true := by kernel_rfl
theorem us_91 : (X.P.underlying 91).isSome = true := by kernel_rfl
theorem us_98 : (X.P.underlying 98).isSome = true := by kernel_rfl
theorem us_101 : (X.P.underlying 101).isSome = true := by kernel_rfl
theorem us_105 : (X.P.underlying 105).isSome = true := by kernel_rfl
theorem us_114 : (X.P.underlying 114).isSome = true := by kernel_rfl
theorem us_115 : (X.P.underlying 115).isSome = true := by kernel_rfl
theorem us_117 : (X.P.underlying 117).isSome = true := by kernel_rfl
theorem us_120 : (X.P.underlying 120).isSome = true := by kernel_rfl
theorem us_125 : (X.P.underlying 125).isSome = true := by kernel_rfl
theorem us_132 : (X.P.underlying 132).isSome = true := by kernel_rfl
theorem us_134 : (X.P.underlying 134).isSome = true := by kernel_rfl
theorem us_143 : (X.P.underlying 143).isSome = true := by kernel_rfl
theorem us_145 : (X.P.underlying 145).isSome = true := by kernel_rfl
theorem us_146 : (X.P.underlying 146).isSome = true := by kernel_rfl
theorem us_150 : (X.P.underlying 150).isSome = true := by kernel_rfl
theorem us_169 : (X.P.underlying 169).isSome = true := by kernel_rfl
theorem us_171 : (X.P.underlying 171).isSome = true := by kernel_rfl
theorem us_172 : (X.P.underlying 172).isSome = true := by kernel_rfl
theorem us_173 : (X.P.underlying 173).isSome = true := by kernel_rfl
attribute [go_sem] tk_2 lay_2 sz_2 tk_3 lay_3 sz_3 tk_4 lay_4 sz_4 tk_5 lay_5 sz_5
attribute [go_sem] tk_9 lay_9 sz_9 tk_12 lay_12 sz_12 tk_22 lay_22 sz_22 tk_23 lay_23 sz_23
attribute [go_sem] tk_25 lay_25 sz_25 bt_25 tk_26 lay_26 sz_26 tk_28 lay_28 sz_28 bt_28 tk_31
attribute [go_sem] lay_31 sz_31 tk_32 lay_32 sz_32 tk_33 lay_33 sz_33 tk_35 lay_35 sz_35 bt_35
attribute [go_sem] tk_38 lay_38 sz_38 tk_48 lay_48 sz_48 bt_48 tk_56 lay_56 sz_56 tk_58 lay_58
attribute [go_sem] sz_58 bt_58 tk_59 lay_59 sz_59 tk_64 lay_64 sz_64 mp_64 tk_67 lay_67 sz_67
attribute [go_sem] tk_72 lay_72 sz_72 tk_73 lay_73 sz_73 tk_76 lay_76 sz_76 mp_76 tk_86 lay_86
attribute [go_sem] sz_86 mp_86 tk_91 lay_91 sz_91 tk_98 lay_98 sz_98 bt_98 tk_101 lay_101 sz_101
attribute [go_sem] tk_105 lay_105 sz_105 tk_114 lay_114 sz_114 tk_115 lay_115 sz_115 mp_115 tk_117 lay_117
attribute [go_sem] sz_117 bt_117 tk_120 lay_120 sz_120 tk_125 lay_125 sz_125 tk_132 lay_132 sz_132 tk_134
attribute [go_sem] lay_134 sz_134 tk_143 lay_143 sz_143 tk_145 lay_145 sz_145 tk_146 lay_146 sz_146 tk_150
attribute [go_sem] lay_150 sz_150 tk_169 lay_169 sz_169 tk_171 lay_171 sz_171 bt_171 tk_172 lay_172
attribute [go_sem] sz_172 tk_173 lay_173 sz_173 mp_173 us_2 us_3 us_4 us_5 us_9 us_12
attribute [go_sem] us_22 us_23 us_25 us_26 us_28 us_31 us_32 us_33 us_35 us_38 us_48 us_56
attribute [go_sem] us_58 us_59 us_64 us_67 us_72 us_73 us_76 us_86 us_91 us_98 us_101 us_105
attribute [go_sem] us_114 us_115 us_117 us_120 us_125 us_132 us_134 us_143 us_145 us_146 us_150 us_169
attribute [go_sem] us_171 us_172 us_173

end Go.Proofs.YtcpfgjfiacfmoaaGreatDoor

namespace Go.Proofs
open Go.Shelf
def Tryz.lays145_ren : Go.Shelf.Ren := ⟨fun | 145 => 169 | 220 => 177 | 219 => 182 | 217 => 183 | 225 => 184 | 224 => 185 | 267 => 186 | 266 => 187 | 314 => 188 | n => n, fun | 9 => 9 | 4 => 4 | 59 => 140 | 3 => 3 | 5 => 5 | 46 => 105 | 146 => 177 | 51 => 132 | n => n, fun | 1 => 2 | n => n⟩
theorem Tryz.lays145 : Go.Proofs.Lays.n145 Tryz.prog Tryz.lays145_ren := {
  mixed := by kernel_rfl
  f145 := Tryz.func169.trans (congrArg some (by kernel_rfl))
  f217 := Tryz.func183.trans (congrArg some (by kernel_rfl))
  f219 := Tryz.func182.trans (congrArg some (by kernel_rfl))
  f220 := Tryz.func177.trans (congrArg some (by kernel_rfl))
  f224 := Tryz.func185.trans (congrArg some (by kernel_rfl))
  f225 := Tryz.func184.trans (congrArg some (by kernel_rfl))
  f266 := Tryz.func187.trans (congrArg some (by kernel_rfl))
  f267 := Tryz.func186.trans (congrArg some (by kernel_rfl))
  f314 := Tryz.func188.trans (congrArg some (by kernel_rfl))
  t3 := Tryz.underlying3
  a3 := Tryz.isAgg3
  z3 := Tryz.sizeOf3
  v3 := Tryz.zeroValue3
  t4 := Tryz.underlying4
  a4 := Tryz.isAgg4
  z4 := Tryz.sizeOf4
  v4 := Tryz.zeroValue4
  t5 := Tryz.underlying5
  a5 := Tryz.isAgg5
  z5 := Tryz.sizeOf5
  v5 := Tryz.zeroValue5
  t9 := Tryz.underlying9
  a9 := Tryz.isAgg9
  z9 := Tryz.sizeOf9
  v9 := Tryz.zeroValue9
  t46 := Tryz.underlying105
  a46 := Tryz.isAgg105
  z46 := Tryz.sizeOf105
  v46 := Tryz.zeroValue105
  t51 := Tryz.underlying132
  a51 := Tryz.isAgg132
  z51 := Tryz.sizeOf132
  v51 := Tryz.zeroValue132
  t59 := Tryz.underlying140
  a59 := Tryz.isAgg140
  z59 := Tryz.sizeOf140
  v59 := Tryz.zeroValue140
  t146 := Tryz.underlying177
  a146 := Tryz.isAgg177
  z146 := Tryz.sizeOf177
  v146 := Tryz.zeroValue177
  g1 := by kernel_rfl }
def Tryz.laysM219_ren : Go.Shelf.Ren := ⟨fun | 219 => 182 | 217 => 183 | 225 => 184 | 224 => 185 | 267 => 186 | 266 => 187 | 314 => 188 | n => n, fun | 9 => 9 | 3 => 3 | 4 => 4 | 5 => 5 | 46 => 105 | 146 => 177 | 51 => 132 | n => n, fun | 1 => 2 | n => n⟩
theorem Tryz.laysM219 : Go.Proofs.LaysM.n219 Tryz.prog Tryz.laysM219_ren := {
  mixed := by kernel_rfl
  f217 := Tryz.func183.trans (congrArg some (by kernel_rfl))
  f219 := Tryz.func182.trans (congrArg some (by kernel_rfl))
  f224 := Tryz.func185.trans (congrArg some (by kernel_rfl))
  f225 := Tryz.func184.trans (congrArg some (by kernel_rfl))
  f266 := Tryz.func187.trans (congrArg some (by kernel_rfl))
  f267 := Tryz.func186.trans (congrArg some (by kernel_rfl))
  f314 := Tryz.func188.trans (congrArg some (by kernel_rfl))
  t3 := Tryz.underlying3
  a3 := Tryz.isAgg3
  z3 := Tryz.sizeOf3
  v3 := Tryz.zeroValue3
  t4 := Tryz.underlying4
  a4 := Tryz.isAgg4
  z4 := Tryz.sizeOf4
  v4 := Tryz.zeroValue4
  t5 := Tryz.underlying5
  a5 := Tryz.isAgg5
  z5 := Tryz.sizeOf5
  v5 := Tryz.zeroValue5
  t9 := Tryz.underlying9
  a9 := Tryz.isAgg9
  z9 := Tryz.sizeOf9
  v9 := Tryz.zeroValue9
  t46 := Tryz.underlying105
  a46 := Tryz.isAgg105
  z46 := Tryz.sizeOf105
  v46 := Tryz.zeroValue105
  t51 := Tryz.underlying132
  a51 := Tryz.isAgg132
  z51 := Tryz.sizeOf132
  v51 := Tryz.zeroValue132
  t146 := Tryz.underlying177
  a146 := Tryz.isAgg177
  z146 := Tryz.sizeOf177
  v146 := Tryz.zeroValue177
  g1 := by kernel_rfl
  i3 := by kernel_rfl
  i4 := by kernel_rfl
  i5 := by kernel_rfl
  i9 := by kernel_rfl
  i46 := by kernel_rfl
  i51 := by kernel_rfl
  i146 := by kernel_rfl
  m1 := by kernel_rfl
  s1_3 := fun w h => Go.Proofs.cell_of_shapedOpen_int (zero := #[.int .i64 0]) (t := 3) h (of_decide_eq_true (by kernel_rfl)) (by kernel_rfl) rfl (by kernel_rfl) (by kernel_rfl) Tryz.underlying3 }
def Tryz.lays196_ren : Go.Shelf.Ren := ⟨fun | 196 => 164 | 259 => 175 | n => n, fun | 9 => 9 | 4 => 4 | 3 => 3 | 5 => 5 | 12 => 12 | 119 => 169 | 0 => 0 | 46 => 105 | 139 => 172 | 138 => 171 | 53 => 134 | n => n, fun | 3 => 0 | 4 => 1 | n => n⟩
theorem Tryz.lays196 : Go.Proofs.Lays.n196 Tryz.prog Tryz.lays196_ren := {
  mixed := by kernel_rfl
  f196 := Tryz.func164.trans (congrArg some (by kernel_rfl))
  f259 := Tryz.func175.trans (congrArg some (by kernel_rfl))
  t0 := Tryz.underlying0
  a0 := Tryz.isAgg0
  z0 := Tryz.sizeOf0
  v0 := Tryz.zeroValue0
  t3 := Tryz.underlying3
  a3 := Tryz.isAgg3
  z3 := Tryz.sizeOf3
  v3 := Tryz.zeroValue3
  t4 := Tryz.underlying4
  a4 := Tryz.isAgg4
  z4 := Tryz.sizeOf4
  v4 := Tryz.zeroValue4
  t5 := Tryz.underlying5
  a5 := Tryz.isAgg5
  z5 := Tryz.sizeOf5
  v5 := Tryz.zeroValue5
  t9 := Tryz.underlying9
  a9 := Tryz.isAgg9
  z9 := Tryz.sizeOf9
  v9 := Tryz.zeroValue9
  t12 := Tryz.underlying12
  a12 := Tryz.isAgg12
  z12 := Tryz.sizeOf12
  v12 := Tryz.zeroValue12
  t46 := Tryz.underlying105
  a46 := Tryz.isAgg105
  z46 := Tryz.sizeOf105
  v46 := Tryz.zeroValue105
  t53 := Tryz.underlying134
  a53 := Tryz.isAgg134
  z53 := Tryz.sizeOf134
  v53 := Tryz.zeroValue134
  t119 := Tryz.underlying169
  a119 := Tryz.isAgg169
  z119 := Tryz.sizeOf169
  t138 := Tryz.underlying171
  a138 := Tryz.isAgg171
  z138 := Tryz.sizeOf171
  v138 := Tryz.zeroValue171
  t139 := Tryz.underlying172
  a139 := Tryz.isAgg172
  z139 := Tryz.sizeOf172
  v139 := Tryz.zeroValue172
  g3 := by kernel_rfl
  g4 := by kernel_rfl }
namespace YtcpfgjfiacfmoaaGreatDoor
open Go.AL
end YtcpfgjfiacfmoaaGreatDoor
end Go.Proofs

set_option linter.unusedSimpArgs false
set_option linter.unusedVariables false
set_option maxRecDepth 100000
namespace Go.Proofs.YtcpfgjfiacfmoaaGreatDoor
open Go Go.AL Go.RowKit Go.ChangeShapes Go.WideShapes Go.Proofs

theorem own : ownKnob Tryz.prog.godebug = none := by kernel_rfl
theorem laidOut : laidOutB Tryz.prog = true := by kernel_rfl
def seatLaid : List (String × DataW Unit) := [("unicode/utf8.acceptRanges", Rows.laid_unicode_utf8_acceptRanges), ("unicode/utf8.first", Rows.laid_unicode_utf8_first)]
theorem gam {W : World} (h : W.ShapedOpen Tryz.prog) (hL : laidMetH Tryz.prog seatLaid W) : X.Γ (Fz W (phi0 W)) := by
  obtain ⟨m, hm⟩ := Tryz.laysM219.s1_3 W h
  rw [MakeChecks.laidMetH_plain _ _ _ (by kernel_rfl)] at hL
  have hT : Lib.Utf8Tabs 0 1 W := utf8Tabs_of_readsT (U8Types.of196 Tryz.lays196) ⟨by kernel_rfl, by kernel_rfl, by kernel_rfl, by kernel_rfl, by kernel_rfl, by kernel_rfl, by kernel_rfl⟩ (Lib.laidMet.reads hL (.tail _ (.head _))) (Lib.laidMet.reads hL (.head _))
  exact ⟨⟨m, fz0 hm⟩, fun c hc => fz0 (hT.1 c hc), fun i hi => ⟨fz0 (hT.2 i hi).1, fz0 (hT.2 i hi).2⟩⟩

theorem wrap_both {H : Type} {enc : TypeId × Value → H} {a : Assume} {C : Checked} {os : Os} {fu : FuncId} {fn : Func} {s : ChangeSpec} {conds : List PathCond} {apart fresh handsOn again : Bool} {Y : World → Prop}
    (hY : ∀ w w' : World, w.heap = w'.heap → Y w → Y w') (hown : ownKnob C.prog.godebug = none) (started : os.Started) (noInit : C.prog.inits.idxOf? fu = none) (hfn : C.prog.funcs[fu]? = some fn)
    (witness : ∃ (w : World) (tape : Tape) (i : Input), w.os = os ∧ (w.forCall tape i).Shaped C.prog ∧ i.vars = [] ∧ Input.okWide C.prog (w.forCall tape i) .any w.heap.size fu i ∧
      ((s.pre enc C.prog fn conds apart (w.forCall tape i).memory i.args ∧ Y (w.forCall tape i).memory) ∧ sizedMet enc C.prog fn (OpenSpec.ofChange s) apart (w.forCall tape i).memory i.args) ∧ a.holds C.prog (lone (Frame.enter C.prog fu i.args .normal) [] (w.forCall tape i)))
    (contract : ∀ (W : World) (base : Nat) (args : Array Value) (ds gs : List (DataW H)) (before : List MemPlace), (∀ (j : Nat) t v, fn.params[j]? = some t → args[j]? = some v → Value.okWide C.prog W .any base t v) → DataW.Whole enc C.prog fn.params.toList s.vars apart W args.toList ds gs before →
      (DataW.weightsEach C.prog (fn.params.toList ++ s.plain.varTypes C.prog) (ds ++ gs)).all (· ≤ reachBytes) = true → W.ShapedOpen C.prog → Y W → Calls C.prog fu args W fun e W' => ∃ v, e = .returned v ∧ s.post enc C.prog fn apart fresh handsOn again W args v W') :
    ReturnsInHanded a C os fu .any (fun w args => (s.pre enc C.prog fn conds apart w args ∧ Y w) ∧ sizedMet enc C.prog fn (OpenSpec.ofChange s) apart w args) (s.post enc C.prog fn apart fresh handsOn again) :=
  returnsInHanded_of_calls hown started noInit witness fun w tape i _ hsh _ hok hpre _ => by
    obtain ⟨_, _, _, fn', hfn', _, _, _, _, hval⟩ := hok
    cases Option.some.inj (hfn'.symm.trans hfn)
    obtain ⟨⟨⟨ds, gs, before, hw, _⟩, hy⟩, hz⟩ := hpre
    refine (contract (w.forCall tape i) w.heap.size i.args ds gs before hval (DataW.Whole.of_heap (by rfl) hw) (hz.weights hw) hsh (hY _ _ (by rfl) hy)).mono fun e W' ⟨v, he, hp⟩ => ?_
    subst he
    exact ChangeSpec.post_blind hp
end Go.Proofs.YtcpfgjfiacfmoaaGreatDoor

set_option linter.unusedSimpArgs false
set_option linter.unusedVariables false
set_option maxRecDepth 100000
namespace Go.Proofs.YtcpfgjfiacfmoaaGreatDoor
open Go Go.AL
attribute [local irreducible] AOps AWp SOps AE AT ACall AApp

def rowCells (l : List Int) : List AV := [.sl false (l.map intCells)]
theorem int_at {l : List Int} {i : Nat} {c : Int} (h : l[i]? = some c) : (l.map intCells)[i]? = some [.v (.int .i64 c)] := by rw [List.getElem?_map, h]; rfl
theorem row_at {l : List (List Int)} {i : Nat} {c : List Int} (h : l[i]? = some c) : (l.map rowCells)[i]? = some [.sl false (c.map intCells)] := by rw [List.getElem?_map, h]; rfl
theorem int_one (a : Int) : (intCells a).length = 1 ∧ (intCells a).all AV.one = true := ⟨rfl, rfl⟩
theorem row_one (a : List Int) : (rowCells a).length = 1 ∧ (rowCells a).all AV.one = true := ⟨rfl, rfl⟩

def atI (n : Int) (l : List Int) : Int := match l.findIdx? (fun x => decide (x = n)) with | some i => i | none => -1
theorem atI_take {n : Int} {l : List Int} {i : Nat} {x : Int} (hx : l[i]? = some x) (h : ∀ y ∈ l.take i, y ≠ n) (e : x = n) : atI n l = i := by
  have : l.findIdx? (fun x => decide (x = n)) = some i := by
    obtain ⟨hi, rfl⟩ := List.getElem?_eq_some_iff.1 hx
    rw [List.findIdx?_eq_some_iff_getElem]
    refine ⟨hi, by simp [e], fun j hj => ?_⟩
    have := h l[j] (by rw [List.mem_take_iff_getElem]; exact ⟨j, by omega, rfl⟩)
    simpa using this
  rw [atI, this]
theorem atI_none {n : Int} {l : List Int} (h : ∀ y ∈ l, y ≠ n) : atI n l = -1 := by
  have : l.findIdx? (fun x => decide (x = n)) = none := by
    rw [List.findIdx?_eq_none_iff]
    intro x hx
    simpa using h x hx
  rw [atI, this]
def Arr (H : AHeap) (l : List Int) (s : AV) : Prop := (∃ t, s = .sl t (l.map intCells)) ∨ (∃ b sn, s = .row b 1 l.length ∧ H.get b = some (.row 3 1 sn (l.map intCells))) ∨
  ∃ b sn pre, s = .vw b 1 pre.length l.length ∧ H.get b = some (.row 3 1 sn (pre ++ l.map intCells))
theorem Arr.len {H : AHeap} {l : List Int} {s : AV} (hs : Arr H l s) (M : AHeap) : lenK M (.sl 3 (some 1)) s = some (.v (.int .i64 l.length)) := by
  rcases hs with ⟨t, rfl⟩ | ⟨b, sn, rfl, _⟩ | ⟨b, sn, pre, rfl, _⟩
  · simp [lenK]
  · rfl
  · rfl
theorem Arr.at_ {H : AHeap} {l : List Int} {s : AV} {i : Nat} {a : Int} (hs : Arr H l s) (h : l[i]? = some a) : ∃ p, indexAddrK (.sl 3 (some 1)) s (.v (.int .i64 i)) = some p ∧ p.cellsAt H = some [.v (.int .i64 a)] := by
  have hi := (List.getElem?_eq_some_iff.1 h).1
  rcases hs with ⟨t, rfl⟩ | ⟨b, sn, rfl, hb⟩ | ⟨b, sn, pre, rfl, hb⟩
  · exact ⟨.fp [.v (.int .i64 a)], by simp [indexAddrK, h, intCells], rfl⟩
  · refine ⟨.rp b 1 i 0, ?_, ?_⟩
    · simp [indexAddrK]; omega
    · simp [AV.cellsAt, hb, h, intCells]
  · refine ⟨.rp b 1 (pre.length + i) 0, ?_, ?_⟩
    · simp [indexAddrK]; omega
    · have e : (pre ++ List.map intCells l)[pre.length + i]? = some [.v (.int .i64 a)] := by
        rw [List.getElem?_append_right (Nat.le_add_right _ _), Nat.add_sub_cancel_left, List.getElem?_map, h]; rfl
      simp [AV.cellsAt, hb, e]
theorem has_c (n : Int) (l : List Int) (s : AV) (hl : l.length ≤ 9223372036854775807) (H : AHeap) (hs : Arr H l s) (K : AV → AHeap → Prop) (h : K (.v (.bool (decide (n ∈ l)))) H) : ACall X 90 [.v (.int .i64 n), s] H K := by
  refine ACall_intro Tryz.func90 rfl (by kernel_rfl) (by rw [Tryz.ntmps90]; simp) ?_; rw [Tryz.ntmps90]; simp only [frame0, Nat.reduceAdd]
  (apply sR; intro K hK; refine qr ?_; refine s_nil (hK _ _ ?_); clear hK K; apply sK; intro K hK; apply sR; intro K hK; refine qr ?_; refine s_nil (hK _ _ ?_); clear hK K; apply AWp_block)
  refine AWp_loop_s (σ := Nat) [0, 1, 5] (fun i => [.v (.int .i64 n), s, .v (.int .i64 i)]) (fun _ => H) (fun i => l.length - i) (fun i => i ≤ l.length ∧ ∀ y ∈ l.take i, y ≠ n) 0 ⟨Nat.zero_le _, by simp⟩ rfl rfl (fun i hi => ?_)
  simp only [List.zip_cons_cons, List.zip_nil_right]
  (apply sK; intro K hK; apply sR; intro K hK; (iterate 2 (refine qr ?_)); (apply s_q; decide; rfl; (simp only [go_sem]; exact hs.len _)); refine qr ?_; refine s_nil (hK _ _ ?_); clear hK K)
  refine cs (fun hd => ?_) (fun hd => ?_)
  · have hlt : i < l.length := by simpa using hd
    obtain ⟨a, ha⟩ := gete hlt
    have hg1 := int_at ha
    obtain ⟨p, hp, hpc⟩ := hs.at_ ha
    (refine AWp_skip (hK _ _ ?_); clear hK K; apply sK; intro K hK; apply AWp_block; apply sR; intro K hK; (iterate 2 (refine qr ?_)))
    apply s_q; decide; rfl; (simp only [pvK, AFr.ev, AFr.get, reduceIte, Nat.reduceEqDiff, tk_38]; exact hp)
    apply s_q; decide; rfl; (simp only [pvK, AFr.ev, AFr.get, reduceIte, Nat.reduceEqDiff, lay_3, hpc, Option.bind_some, ldK]; rfl)
    ((iterate 2 (refine qr ?_)); refine s_nil (hK _ _ ?_); clear hK K)
    refine cs (fun he => ?_) (fun he => ?_)
    · (apply sR; intro K hK; refine qr ?_; refine s_nil (hK _ _ ?_); clear hK K; apply AWp_ret; simp only [AThen, ABlock]; apply end_ret; rfl; simp only [AFr.get, reduceIte, Nat.reduceEqDiff])
      refine finB h ?_
      symm
      rw [decide_eq_true_iff]
      have : a = n := by simpa using he
      rw [← this]; exact List.mem_of_getElem? ha
    · (refine AWp_skip (hK _ _ ?_); clear hK K; apply s_region; (iterate 3 (refine qr ?_)); apply s_nil; simp only [AThen, ABlock])
      refine ⟨i + 1, by omega, ⟨by omega, fun y hy => ?_⟩, ?_, by trivial⟩
      · rcases take_mem_succ ha hy with h1 | rfl
        · exact hi.2 y h1
        · simpa using he
      · simp only [getAll, List.map, AFr.get, reduceIte, Nat.reduceEqDiff]
        rw [wrapS hlt (by omega)]; try rfl
  · have hge : l.length ≤ i := by simpa using hd
    (apply AWp_exit; simp only [AThen, ABlock, reduceIte, Nat.reduceEqDiff]; clear hK K; refine hK _ _ ?_; clear hK K; apply sR; intro K hK; refine qr ?_; refine s_nil (hK _ _ ?_); clear hK K; apply AWp_ret)
    refine finB h ?_
    symm
    rw [decide_eq_false_iff_not]
    intro hm
    exact hi.2 n (by rw [List.take_of_length_le hge]; exact hm) rfl
theorem ready_c (t : Bool) (l m : List Int) (s : AV) (hl : l.length ≤ 9223372036854775807) (hm : m.length ≤ 9223372036854775807) (H : AHeap) (hs : Arr H m s) (K : AV → AHeap → Prop) (h : K (.v (.bool (l.all fun x => decide (x ∈ m)))) H) : ACall X 91 [.sl t (l.map intCells), s] H K := by
  refine ACall_intro Tryz.func91 rfl (by kernel_rfl) (by rw [Tryz.ntmps91]; simp) ?_; rw [Tryz.ntmps91]; simp only [frame0, Nat.reduceAdd]
  (apply sR; intro K hK; refine qr ?_; refine s_nil (hK _ _ ?_); clear hK K; apply sK; intro K hK; apply sR; intro K hK; refine qr ?_; refine s_nil (hK _ _ ?_); clear hK K; apply AWp_block)
  refine AWp_loop_s (σ := Nat) [0, 1, 5] (fun i => [.sl t (l.map intCells), s, .v (.int .i64 i)]) (fun _ => H) (fun i => l.length - i) (fun i => i ≤ l.length ∧ (l.take i).all (fun x => decide (x ∈ m)) = true) 0 ⟨Nat.zero_le _, by simp⟩ rfl rfl (fun i hi => ?_)
  simp only [List.zip_cons_cons, List.zip_nil_right]
  (apply sK; intro K hK; apply sR; intro K hK; (iterate 4 (refine qr ?_)); refine s_nil (hK _ _ ?_); clear hK K)
  refine cs (fun hd => ?_) (fun hd => ?_)
  · have hlt : i < l.length := by simpa using hd
    obtain ⟨a, ha⟩ := gete hlt
    have hg1 := int_at ha
    (refine AWp_skip (hK _ _ ?_); clear hK K; apply sK; intro K hK; apply AWp_block; apply sR; intro K hK; (iterate 5 (apply s_q; decide; rfl; (simp only [go_sem, hg1]; rfl))); apply s_call; decide; (iterate 2 (simp only [go_sem, hg1]; rfl)); apply has_c a m s hm H hs; apply s_q; decide; rfl; (simp only [go_sem, hg1]; rfl); refine s_nil (hK _ _ ?_); clear hK K)
    refine cs (fun he => ?_) (fun he => ?_)
    · (apply sR; intro K hK; refine qr ?_; refine s_nil (hK _ _ ?_); clear hK K; apply AWp_ret; simp only [AThen, ABlock]; apply end_ret; rfl; simp only [AFr.get, reduceIte, Nat.reduceEqDiff])
      refine finB h ?_
      rw [not_all ha (by simpa using he)]
    · (refine AWp_skip (hK _ _ ?_); clear hK K; apply s_region; (iterate 3 (refine qr ?_)); apply s_nil; simp only [AThen, ABlock])
      refine ⟨i + 1, by omega, ⟨by omega, ?_⟩, ?_, by trivial⟩
      · rw [all_take ha hi.2]; simpa using he
      · simp only [getAll, List.map, AFr.get, reduceIte, Nat.reduceEqDiff]
        rw [wrapS hlt (by omega)]; try rfl
  · have hge : l.length ≤ i := by simpa using hd
    (apply AWp_exit; simp only [AThen, ABlock, reduceIte, Nat.reduceEqDiff]; clear hK K; refine hK _ _ ?_; clear hK K; apply sR; intro K hK; refine qr ?_; refine s_nil (hK _ _ ?_); clear hK K; apply AWp_ret)
    refine finB h ?_
    rw [← hi.2, List.take_of_length_le hge]
theorem isNaN64_c (n : Int) (H : AHeap) (K : AV → AHeap → Prop) (h : K (.v (.bool false)) H) : ACall X 82 [.v (.int .i64 n)] H K := by
  refine ACall_intro Tryz.func82 rfl (by kernel_rfl) (by rw [Tryz.ntmps82]; simp) ?_; rw [Tryz.ntmps82]; simp only [frame0, Nat.reduceAdd]
  (apply sR; intro K hK; refine qr ?_; refine s_nil (hK _ _ ?_); clear hK K; apply sR; intro K hK; (iterate 4 (refine qr ?_)); refine s_nil (hK _ _ ?_); clear hK K; apply AWp_ret)
  exact finB h (by simp)
theorem isNaN_c (n : Int) (H : AHeap) (K : AV → AHeap → Prop) (h : K (.v (.bool false)) H) : ACall X 97 [.v (.int .i64 n)] H K := by
  refine ACall_intro Tryz.func97 rfl (by kernel_rfl) (by rw [Tryz.ntmps97]; simp) ?_; rw [Tryz.ntmps97]; simp only [frame0, Nat.reduceAdd]
  (apply sR; intro K hK; refine qr ?_; refine s_nil (hK _ _ ?_); clear hK K; apply sR; intro K hK; (iterate 4 (refine qr ?_)); refine s_nil (hK _ _ ?_); clear hK K; apply AWp_ret)
  exact finB h (by simp)
theorem compare64_c (a b : Int) (H : AHeap) (K : AV → AHeap → Prop) (h : K (.v (.int .i64 (cmp a b))) H) : ACall X 48 [.v (.int .i64 a), .v (.int .i64 b)] H K := by
  refine ACall_intro Tryz.func48 rfl (by kernel_rfl) (by rw [Tryz.ntmps48]; simp) ?_; rw [Tryz.ntmps48]; simp only [frame0, Nat.reduceAdd]
  (apply sR; intro K hK; refine qr ?_; refine s_nil (hK _ _ ?_); clear hK K; apply sR; intro K hK; refine qr ?_; apply s_call; decide; (iterate 2 (simp only [go_sem]; rfl)); apply isNaN64_c; refine qr ?_; refine s_nil (hK _ _ ?_); clear hK K; apply sR; intro K hK; refine qr ?_; apply s_call; decide; (iterate 2 (simp only [go_sem]; rfl)); apply isNaN64_c; refine qr ?_; refine s_nil (hK _ _ ?_); clear hK K; apply sK; intro K hK; apply sR; intro K hK; refine qr ?_; refine s_nil (hK _ _ ?_); clear hK K)
  refine cs (fun hc => ?_) (fun hc => ?_)
  · cases hc
  (refine AWp_skip (hK _ _ ?_); clear hK K; apply sK; intro K hK; apply sR; intro K hK; refine qr ?_; refine s_nil (hK _ _ ?_); clear hK K)
  refine cs (fun hc => ?_) (fun hc => ?_)
  · cases hc
  (refine AWp_skip (hK _ _ ?_); clear hK K; apply sK; intro K hK; apply sR; intro K hK; (iterate 3 (refine qr ?_)); refine s_nil (hK _ _ ?_); clear hK K)
  refine cs (fun hc => ?_) (fun hc => ?_)
  · (apply sR; intro K hK; refine qr ?_; refine s_nil (hK _ _ ?_); clear hK K; apply AWp_ret; simp only [AThen, ABlock]; apply end_ret; rfl; simp only [AFr.get, reduceIte, Nat.reduceEqDiff])
    exact finI h (by simp at hc; simp [cmp, hc])
  (refine AWp_skip (hK _ _ ?_); clear hK K; apply sK; intro K hK; apply sR; intro K hK; (iterate 3 (refine qr ?_)); refine s_nil (hK _ _ ?_); clear hK K)
  refine cs (fun hd => ?_) (fun hd => ?_)
  · (apply sR; intro K hK; refine qr ?_; refine s_nil (hK _ _ ?_); clear hK K; apply AWp_ret; simp only [AThen, ABlock]; apply end_ret; rfl; simp only [AFr.get, reduceIte, Nat.reduceEqDiff])
    exact finI h (by simp at hc hd; simp [cmp, hd]; omega)
  (refine AWp_skip (hK _ _ ?_); clear hK K; apply sR; intro K hK; refine qr ?_; refine s_nil (hK _ _ ?_); clear hK K; apply AWp_ret)
  exact finI h (by simp at hc hd; unfold cmp; rw [if_neg (by omega), if_neg (by omega)])
theorem compare_c (a b : Int) (H : AHeap) (K : AV → AHeap → Prop) (h : K (.v (.int .i64 (cmp a b))) H) : ACall X 64 [.v (.int .i64 a), .v (.int .i64 b)] H K := by
  refine ACall_intro Tryz.func64 rfl (by kernel_rfl) (by rw [Tryz.ntmps64]; simp) ?_; rw [Tryz.ntmps64]; simp only [frame0, Nat.reduceAdd]
  (apply sR; intro K hK; refine qr ?_; refine s_nil (hK _ _ ?_); clear hK K; apply sR; intro K hK; refine qr ?_; apply s_call; decide; (iterate 2 (simp only [go_sem]; rfl)); apply isNaN_c; refine qr ?_; refine s_nil (hK _ _ ?_); clear hK K; apply sR; intro K hK; refine qr ?_; apply s_call; decide; (iterate 2 (simp only [go_sem]; rfl)); apply isNaN_c; refine qr ?_; refine s_nil (hK _ _ ?_); clear hK K; apply sK; intro K hK; apply sR; intro K hK; refine qr ?_; refine s_nil (hK _ _ ?_); clear hK K)
  refine cs (fun hc => ?_) (fun hc => ?_)
  · cases hc
  (refine AWp_skip (hK _ _ ?_); clear hK K; apply sK; intro K hK; apply sR; intro K hK; refine qr ?_; refine s_nil (hK _ _ ?_); clear hK K)
  refine cs (fun hc => ?_) (fun hc => ?_)
  · cases hc
  (refine AWp_skip (hK _ _ ?_); clear hK K; apply sK; intro K hK; apply sR; intro K hK; (iterate 3 (refine qr ?_)); refine s_nil (hK _ _ ?_); clear hK K)
  refine cs (fun hc => ?_) (fun hc => ?_)
  · (apply sR; intro K hK; refine qr ?_; refine s_nil (hK _ _ ?_); clear hK K; apply AWp_ret; simp only [AThen, ABlock]; apply end_ret; rfl; simp only [AFr.get, reduceIte, Nat.reduceEqDiff])
    exact finI h (by simp at hc; simp [cmp, hc])
  (refine AWp_skip (hK _ _ ?_); clear hK K; apply sK; intro K hK; apply sR; intro K hK; (iterate 3 (refine qr ?_)); refine s_nil (hK _ _ ?_); clear hK K)
  refine cs (fun hd => ?_) (fun hd => ?_)
  · (apply sR; intro K hK; refine qr ?_; refine s_nil (hK _ _ ?_); clear hK K; apply AWp_ret; simp only [AThen, ABlock]; apply end_ret; rfl; simp only [AFr.get, reduceIte, Nat.reduceEqDiff])
    exact finI h (by simp at hc hd; simp [cmp, hd]; omega)
  (refine AWp_skip (hK _ _ ?_); clear hK K; apply sR; intro K hK; refine qr ?_; refine s_nil (hK _ _ ?_); clear hK K; apply AWp_ret)
  exact finI h (by simp at hc hd; unfold cmp; rw [if_neg (by omega), if_neg (by omega)])
theorem or_c (t : Bool) (l : List Int) (hl : l.length ≤ 1000) (H : AHeap) (K : AV → AHeap → Prop) (h : K (.v (.int .i64 (firstNZ l))) H) : ACall X 87 [.sl t (l.map intCells)] H K := by
  refine ACall_intro Tryz.func87 rfl (by kernel_rfl) (by rw [Tryz.ntmps87]; simp) ?_; rw [Tryz.ntmps87]; simp only [frame0, Nat.reduceAdd]
  (apply sR; intro K hK; refine qr ?_; refine s_nil (hK _ _ ?_); clear hK K; apply sR; intro K hK; refine qr ?_; refine s_nil (hK _ _ ?_); clear hK K; apply sK; intro K hK; apply sR; intro K hK; (iterate 3 (refine qr ?_)); refine s_nil (hK _ _ ?_); clear hK K; apply AWp_block)
  refine AWp_loop_s (σ := Nat) [3, 6, 7, 8] (fun i => [.v (.int .i64 0), .sl t (l.map intCells), .v (.int .i64 l.length), .v (.int .i64 i)]) (fun _ => H) (fun i => l.length - i) (fun i => i ≤ l.length ∧ ∀ x ∈ l.take i, x = 0) 0 ⟨Nat.zero_le _, by simp⟩ rfl rfl (fun i hi => ?_)
  simp only [List.zip_cons_cons, List.zip_nil_right]
  (apply sR; intro K hK; refine qr ?_; refine s_nil (hK _ _ ?_); clear hK K; apply sK; intro K hK)
  refine cs (fun hc => ?_) (fun hc => ?_)
  · have hlt : i < l.length := by simpa using hc
    obtain ⟨a, hm⟩ : ∃ a, l[i]? = some a := ⟨_, List.getElem?_eq_getElem hlt⟩
    have hg : (l.map intCells)[i]? = some [.v (.int .i64 a)] := by rw [List.getElem?_map, hm]; rfl
    (refine AWp_skip (hK _ _ ?_); clear hK K; apply sK; intro K hK; apply AWp_block; apply sR; intro K hK; (iterate 3 (apply s_q; decide; rfl; (simp only [go_sem, hg]; rfl))); refine s_nil (hK _ _ ?_); clear hK K; apply sR; intro K hK; (iterate 3 (apply s_q; decide; rfl; (simp only [go_sem, hg]; rfl))); refine s_nil (hK _ _ ?_); clear hK K)
    refine cs (fun hd => ?_) (fun hd => ?_)
    · (apply sR; intro K hK; (iterate 2 (refine qr ?_)); refine s_nil (hK _ _ ?_); clear hK K; apply AWp_ret; simp only [AThen, ABlock]; apply end_ret; rfl; simp only [AFr.get, reduceIte, Nat.reduceEqDiff])
      exact finI h (firstNZ_take hm hi.2 (by simpa using hd)).symm
    · (refine AWp_skip (hK _ _ ?_); clear hK K; apply s_region; (iterate 2 (refine qr ?_)); apply s_nil; simp only [AThen, ABlock])
      refine ⟨i + 1, by omega, ⟨by omega, ?_⟩, ?_, by trivial⟩
      · rw [List.take_add_one, hm]
        intro x hx
        rw [List.mem_append] at hx
        rcases hx with hx | hx
        · exact hi.2 x hx
        · simp at hx hd; omega
      · simp only [getAll, List.map_cons, List.map_nil, AFr.get]
        rw [wrapS hlt (by omega)]; rfl
  · have hge : l.length ≤ i := by simpa using hc
    (apply AWp_exit; simp only [AThen, ABlock, reduceIte, Nat.reduceEqDiff]; clear hK K; refine hK _ _ ?_; clear hK K; apply sR; intro K hK; (iterate 2 (refine qr ?_)); refine s_nil (hK _ _ ?_); clear hK K; apply AWp_ret)
    exact finI h (firstNZ_all (fun x hx => hi.2 x (by rw [List.take_of_length_le hge]; exact hx))).symm
theorem or2_c (a b : Int) (H : AHeap) (K : AV → AHeap → Prop) (h : K (.v (.int .i64 (firstNZ [a, b]))) H) : ACall X 87 [.sl true [[.v (.int .i64 a)], [.v (.int .i64 b)]]] H K :=
  or_c true [a, b] (by simp) H K h
def lessI (R : List Int) (a b : Nat) : Int := firstNZ [cmp (R.getD a 0) (R.getD b 0), cmp a b]
theorem less_c (R : List Int) (a b : Nat) (ha : a < R.length) (hb : b < R.length) (H : AHeap) (K : AV → AHeap → Prop) (h : K (.v (.int .i64 (lessI R a b))) H) :
    ACall X 86 [.v (.int .i64 a), .v (.int .i64 b), .fp [.sl false (R.map intCells)]] H K := by
  obtain ⟨x, hx⟩ := gete ha
  obtain ⟨y, hy⟩ := gete hb
  have hgx := int_at hx
  have hgy := int_at hy
  rw [lessI, List.getD_eq_getElem?_getD, hx, List.getD_eq_getElem?_getD, hy, Option.getD_some, Option.getD_some] at h
  refine ACall_intro Tryz.func86 rfl (by kernel_rfl) (by rw [Tryz.ntmps86]; simp) ?_; rw [Tryz.ntmps86]; simp only [frame0, Nat.reduceAdd]
  (apply sR; intro K hK; refine qr ?_; refine s_nil (hK _ _ ?_); clear hK K; apply sK; intro K hK)
  apply AWp_drawA [0, 1, 2, 3, 4, 5, 6, 7, 8, 9, 10, 11, 12, 13, 14] [] 0 (by exact mixed); kernel_rfl; (iterate 2 (simp only [go_sem]; rfl))
  ((iterate 8 (apply e_q; decide; (simp only [go_sem, hgx, hgy]; rfl))); apply e_call; decide; (iterate 2 (simp only [go_sem, hgx, hgy]; rfl)); (apply compare64_c; exact ⟨rfl, rfl⟩); (iterate 2 (apply e_q; decide; (simp only [go_sem, hgx, hgy]; rfl))); apply e_call; decide; (iterate 2 (simp only [go_sem, hgx, hgy]; rfl)); (apply compare_c; exact ⟨rfl, rfl⟩); apply e_lit; decide; exact el_38; (iterate 2 (simp only [go_sem, hgx, hgy]; rfl)); decide; apply e_call; decide; (iterate 2 (simp only [go_sem, hgx, hgy]; rfl)); (apply or2_c; exact ⟨rfl, rfl⟩); apply e_q; decide; (simp only [go_sem, hgx, hgy]; rfl); apply e_nil; refine t_nil (hK _ _ ?_); clear hK K; apply AWp_ret)
  exact h

structure Ev where
  room : List UInt8
  type : List UInt8
  sender : List UInt8
  isState : Bool
  key : List UInt8
  content : J
  prev : List (List UInt8)
  auth : List (List UInt8)
  depth : Int
  ts : Int
  hash : List UInt8
  sigs : List (List UInt8 × List UInt8)

def sigCells (p : List UInt8 × List UInt8) : List AV := [.s p.1, .s p.2]
def Ev.cells (e : Ev) : List AV :=
  [.s e.room, .s e.type, .s e.sender, .v (.bool e.isState), .s e.key, .v (.int .i64 e.content.kind), .v (.int .i64 e.content.int), .s e.content.text, .sl false (e.content.keys.map strCells), .sl false (e.content.list.map J.cells),
    .sl false (e.prev.map strCells), .sl false (e.auth.map strCells), .v (.int .i64 e.depth), .v (.int .i64 e.ts), .s e.hash, .sl false (e.sigs.map sigCells)]
theorem snap_sigs (b sz : Nat) (es : List (List AV)) (l : List (List UInt8 × List UInt8)) : AV.snapss b sz es (l.map sigCells) = l.map sigCells := snapss_map (fun _ => rfl) l
theorem loosen_sigs (l : List (List UInt8 × List UInt8)) : AV.loosenss (l.map sigCells) = l.map sigCells := loosenss_map (fun _ => rfl) l
theorem Ev.snap (b sz : Nat) (es : List (List AV)) (e : Ev) : AV.snaps b sz es e.cells = e.cells := by
  simp only [Ev.cells, AV.snaps, AV.snap, snap_strs, J.snapss, snap_sigs]
theorem Ev.loosen (e : Ev) : AV.loosens e.cells = e.cells := by
  simp only [Ev.cells, AV.loosens, AV.loosen, loosen_strs, J.loosenss, loosen_sigs]
def ev0 : Ev := ⟨[], [], [], false, [], .mk 0 0 [] [] [], [], [], 0, 0, [], []⟩

def Ev.Wide (e : Ev) : Prop := e.content.Len ∧ e.prev.length ≤ 4611686018427387904 ∧ e.auth.length ≤ 4611686018427387904 ∧ e.sigs.length ≤ 4611686018427387904 ∧ e.sender.length ≤ 4611686018427387904
theorem ev_at {l : List Ev} {i : Nat} {e : Ev} (h : l[i]? = some e) : (l.map Ev.cells)[i]? = some [.s e.room, .s e.type, .s e.sender, .v (.bool e.isState), .s e.key, .v (.int .i64 e.content.kind), .v (.int .i64 e.content.int), .s e.content.text, .sl false (e.content.keys.map strCells), .sl false (e.content.list.map J.cells),
    .sl false (e.prev.map strCells), .sl false (e.auth.map strCells), .v (.int .i64 e.depth), .v (.int .i64 e.ts), .s e.hash, .sl false (e.sigs.map sigCells)] := by rw [List.getElem?_map, h]; rfl
theorem eget_at {l : List J} {i : Nat} {c : J} (h : l[i]? = some c) : (l.map J.cells)[i]? = some [.v (.int .i64 c.kind), .v (.int .i64 c.int), .s c.text, .sl false (c.keys.map strCells), .sl false (c.list.map J.cells)] := by
  rw [List.getElem?_map, h, ← J.cells_eq]; rfl
theorem estr_at {l : List (List UInt8)} {i : Nat} {c : List UInt8} (h : l[i]? = some c) : (l.map strCells)[i]? = some [.s c] := by rw [List.getElem?_map, h]; rfl

inductive Sml : J → Prop
  | mk {j : J} (h1 : j.keys.length ≤ 100 ∧ j.list.length ≤ 300 ∧ j.text.length ≤ 2000) (h2 : ∀ k ∈ j.keys, k.length ≤ 300) (h3 : ∀ x ∈ j.list, Sml x) : Sml j
theorem Sml.fit {j : J} (h : Sml j) : J.Fit j := by
  induction h with
  | mk h1 h2 h3 ih => exact fit_eq.2 ⟨by omega, by omega, fun x hx => by have := h2 x hx; omega, ih⟩
theorem Sml.short {j : J} (h : Sml j) : (∀ k ∈ j.keys, k.length < 4294967281) ∧ ∀ x ∈ j.list, ∀ k ∈ x.keys, k.length < 4294967281 := by
  cases h with
  | mk h1 h2 h3 =>
    refine ⟨fun k hk => by have := h2 k hk; omega, fun x hx k hk => ?_⟩
    cases h3 x hx with
    | mk g1 g2 g3 => have := g2 k hk; omega
set_option maxHeartbeats 2000000 in
theorem left_c : ∀ (m : Nat) (j : J), j.size ≤ m → j.Len → ∀ (n d : Int) (H : AHeap) (K : AV → AHeap → Prop), (∀ r, (0 ≤ r → Sml j) → K (.v (.int .i64 r)) H) → ACall X 32 [.agg j.cells, .v (.int .i64 n), .v (.int .i64 d)] H K := fun m => by
  induction m with
  | zero => intro j hs; exfalso; cases j; simp [J.size] at hs
  | succ m ih =>
  intro j hs hl n d H K h
  obtain ⟨l1, l2, l3⟩ := J.len_eq.1 hl
  have hch : ∀ x ∈ j.list, x.size ≤ m := fun x hx => by have := J.size_list hx; omega
  refine ACall.drop ?_
  rw [J.cells_eq]
  refine ACall_intro Tryz.func32 rfl (by kernel_rfl) (by rw [Tryz.ntmps32]; simp) ?_; rw [Tryz.ntmps32]; simp only [frame0, Nat.reduceAdd]
  apply sR; intro K hK
  apply s_box; decide; exact (by simp only [go_sem]; try rfl); exact (by simp only [go_sem]; try rfl); intro p hp
  (refine qr ?_; refine s_nil (hK _ _ ?_); clear hK K; apply sK; intro K hK; apply sR; intro K hK; (iterate 3 (refine qr ?_)); refine sp ?_; refine sp ?_; apply s_pick; decide; (iterate 6 (simp only [go_sem]; rfl)); trivial; trivial; simp [condsOk]; refine qr ?_; refine sp ?_; (iterate 3 (refine sp ?_)); apply s_pick; decide; (iterate 6 (simp only [go_sem]; rfl)); trivial; trivial; simp [condsOk]; refine qr ?_; refine sp ?_; (iterate 3 (refine sp ?_)); apply s_pick; decide; (iterate 6 (simp only [go_sem]; rfl)); trivial; trivial; simp [condsOk]; refine qr ?_; refine sp ?_; (iterate 3 (refine sp ?_)); apply s_pick; decide; (iterate 6 (simp only [go_sem]; rfl)); trivial; trivial; simp [condsOk]; refine s_nil (hK _ _ ?_); clear hK K)
  generalize hgenq : AHeap.put p _ H = M; obtain ⟨g1, hextq⟩ := gen_ex hgenq hp; have hE := hextq; clear hextq hgenq
  skip
  refine cs (fun hc => ?_) (fun hc => ?_)
  · (apply sR; intro K hK; refine qr ?_; refine s_nil (hK _ _ ?_); clear hK K; apply AWp_ret; simp only [AThen, ABlock]; apply end_ret; rfl; simp only [AFr.get, reduceIte, Nat.reduceEqDiff])
    exact ⟨H, hE, h _ (fun h => absurd h (by decide))⟩
  have hlen : j.keys.length ≤ 100 ∧ j.list.length ≤ 300 ∧ j.text.length ≤ 2000 := by simp at hc; omega
  (refine AWp_skip (hK _ _ ?_); clear hK K; apply sR; intro K hK; (iterate 3 (refine qr ?_)); refine s_nil (hK _ _ ?_); clear hK K; apply sK; intro K hK; apply sR; intro K hK; refine qr ?_; refine s_nil (hK _ _ ?_); clear hK K; apply AWp_block)
  generalize IntKind.i64.wrap (n - 1) = n1
  refine AWp_loop_s (σ := Nat) [1, 2, 3, 7] (fun i => [.v (.int .i64 n1), .v (.int .i64 d), ptrTo p, .v (.int .i64 i)]) (fun _ => M) (fun i => j.keys.length - i) (fun i => i ≤ j.keys.length ∧ ∀ k ∈ j.keys.take i, k.length ≤ 300) 0 ⟨Nat.zero_le _, by simp⟩ rfl rfl (fun i hi => ?_)
  simp only [List.zip_cons_cons, List.zip_nil_right]
  obtain ⟨hi, hks⟩ := hi
  (apply sK; intro K hK; apply sR; intro K hK; (iterate 5 (apply s_q; decide; rfl; (simp only [go_sem, g1]; rfl))); refine s_nil (hK _ _ ?_); clear hK K)
  refine cs (fun hd => ?_) (fun hd => ?_)
  · have hlt : i < j.keys.length := by simpa using hd
    obtain ⟨ky, hky⟩ := gete hlt
    have hgk := estr_at hky
    (refine AWp_skip (hK _ _ ?_); clear hK K; apply sK; intro K hK; apply AWp_block; apply sR; intro K hK; (iterate 7 (apply s_q; decide; rfl; (simp only [go_sem, g1, hgk]; rfl))); refine s_nil (hK _ _ ?_); clear hK K)
    refine cs (fun he => ?_) (fun he => ?_)
    · (apply sR; intro K hK; refine qr ?_; refine s_nil (hK _ _ ?_); clear hK K; apply AWp_ret; simp only [AThen, ABlock]; apply end_ret; rfl; simp only [AFr.get, reduceIte, Nat.reduceEqDiff])
      exact ⟨H, hE, h _ (fun h => absurd h (by decide))⟩
    · have hle : ky.length ≤ 300 := by simp at he; omega
      (refine AWp_skip (hK _ _ ?_); clear hK K; apply s_region; (iterate 3 (refine qr ?_)); apply s_nil; simp only [AThen, ABlock])
      refine ⟨i + 1, by omega, ⟨by omega, fun k hk => by
        rcases take_mem_succ hky hk with hk | rfl
        · exact hks k hk
        · exact hle⟩, ?_, by trivial⟩
      simp only [getAll, List.map_cons, List.map_nil, AFr.get]
      rw [wrapS hlt (by omega)]; rfl
  have hks2 : ∀ k ∈ j.keys, k.length ≤ 300 := fun k hk => hks k (by rw [List.take_of_length_le (by simpa using hd)]; exact hk)
  (apply AWp_exit; simp only [AThen, ABlock, reduceIte, Nat.reduceEqDiff]; clear hK K; refine hK _ _ ?_; clear hK K; apply sK; intro K hK; apply sR; intro K hK; refine qr ?_; refine s_nil (hK _ _ ?_); clear hK K; apply AWp_block)
  refine AWp_loop_s (σ := Nat × Int) [1, 2, 3, 8] (fun s => [.v (.int .i64 s.2), .v (.int .i64 d), ptrTo p, .v (.int .i64 s.1)]) (fun _ => M) (fun s => j.list.length - s.1) (fun s => s.1 ≤ j.list.length ∧ (0 ≤ s.2 → ∀ x ∈ j.list.take s.1, Sml x)) (0, n1) ⟨Nat.zero_le _, fun _ => by simp⟩ rfl rfl (fun s hs => ?_)
  obtain ⟨i, n2⟩ := s
  simp only [List.zip_cons_cons, List.zip_nil_right] at hs ⊢
  obtain ⟨hs, hsl⟩ := hs
  (apply sK; intro K hK; apply sR; intro K hK; (iterate 6 (apply s_q; decide; rfl; (simp only [go_sem, g1]; rfl))); apply s_spec; decide; rfl; rfl; (iterate 4 (simp only [go_sem, g1]; rfl)); trivial; apply s_spec; decide; rfl; rfl; (iterate 4 (simp only [go_sem, g1]; rfl)); simp [condsOk]; apply s_pick; decide; (iterate 6 (simp only [go_sem, g1]; rfl)); trivial; simp [condsOk]; trivial; refine s_nil (hK _ _ ?_); clear hK K)
  refine cs (fun hd => ?_) (fun hd => ?_)
  · have hlt : i < j.list.length := by simp at hd; omega
    have hn2 : 0 ≤ n2 := by simp at hd; omega
    obtain ⟨x, hx⟩ := gete hlt
    have hgx := eget_at hx
    have hxm := List.mem_of_getElem? hx
    have hL : ∀ (n d : Int) (H : AHeap) (K : AV → AHeap → Prop), (∀ r, (0 ≤ r → Sml x) → K (.v (.int .i64 r)) H) → ACall X 32 [.agg [.v (.int .i64 x.kind), .v (.int .i64 x.int), .s x.text, .sl false (x.keys.map strCells), .sl false (x.list.map J.cells)], .v (.int .i64 n), .v (.int .i64 d)] H K := fun n d H K hk => by
      have := ih x (hch x hxm) (l3 x hxm) n d H K hk
      rwa [J.cells_eq] at this
    (refine AWp_skip (hK _ _ ?_); clear hK K; apply sK; intro K hK; apply AWp_block; apply s_region; (iterate 8 (apply s_q; decide; rfl; (simp only [go_sem, g1, hgx]; rfl))); apply s_call; decide; (iterate 2 (simp only [go_sem, g1, hgx]; rfl)); apply hL; intro n3 hn3; apply s_q; decide; rfl; (simp only [go_sem, g1, hgx]; rfl); refine s_nil (hK _ _ ?_); clear hK K; apply s_region; (iterate 3 (apply s_q; decide; rfl; (simp only [go_sem, g1, hgx]; rfl))); apply s_nil; simp only [AThen, ABlock])
    refine ⟨(i + 1, n3), by simp only; omega, ⟨by simp only; omega, fun h0 y hy => by
      rcases take_mem_succ hx hy with hy | rfl
      · exact hsl hn2 y hy
      · exact hn3 h0⟩, ?_, by trivial⟩
    simp only [getAll, List.map, AFr.get, reduceIte, Nat.reduceEqDiff]
    rw [wrapS hlt (by omega)]; try rfl
  · (apply AWp_exit; simp only [AThen, ABlock, reduceIte, Nat.reduceEqDiff]; clear hK K; refine hK _ _ ?_; clear hK K; apply sR; intro K hK; (iterate 2 (refine qr ?_)); refine s_nil (hK _ _ ?_); clear hK K; apply AWp_ret)
    refine ⟨H, hE, h _ (fun h0 => .mk hlen hks2 ?_)⟩
    have hall := hsl h0
    rw [List.take_of_length_le (by simp at hd; omega)] at hall
    exact hall
theorem sig_at {l : List (List UInt8 × List UInt8)} {i : Nat} {c : List UInt8 × List UInt8} (h : l[i]? = some c) : (l.map sigCells)[i]? = some [.s c.1, .s c.2] := by rw [List.getElem?_map, h]; rfl
set_option maxHeartbeats 2000000 in
theorem few05_c (e : Ev) (hl : e.content.Len) (hp : e.prev.length ≤ 4611686018427387904) (ha : e.auth.length ≤ 4611686018427387904) (hs : e.sigs.length ≤ 4611686018427387904) (H : AHeap) (K : AV → AHeap → Prop) (h : ∀ b, (b = true → Sml e.content) → K (.v (.bool b)) H) : ACall X 11 [.agg e.cells] H K := by
  refine ACall.drop ?_
  have hL : ∀ (n d : Int) (H : AHeap) (K : AV → AHeap → Prop), (∀ r, (0 ≤ r → Sml e.content) → K (.v (.int .i64 r)) H) → ACall X 32 [.agg [.v (.int .i64 e.content.kind), .v (.int .i64 e.content.int), .s e.content.text, .sl false (e.content.keys.map strCells), .sl false (e.content.list.map J.cells)], .v (.int .i64 n), .v (.int .i64 d)] H K := fun n d H K hk => by
    have := left_c _ e.content (Nat.le_refl _) hl n d H K hk
    rwa [J.cells_eq] at this
  rw [Ev.cells]
  refine ACall_intro Tryz.func11 rfl (by kernel_rfl) (by rw [Tryz.ntmps11]; simp) ?_; rw [Tryz.ntmps11]; simp only [frame0, Nat.reduceAdd]
  apply sR; intro K hK
  apply s_box; decide; exact (by simp only [go_sem]; try rfl); exact (by simp only [go_sem]; try rfl); intro p hp
  (refine qr ?_; refine s_nil (hK _ _ ?_); clear hK K; apply sK; intro K hK; apply sR; intro K hK; (iterate 21 (refine qr ?_)); refine sp ?_; (iterate 3 (refine sp ?_)); apply s_pick; decide; (iterate 6 (simp only [go_sem]; rfl)); trivial; trivial; simp [condsOk]; refine qr ?_; refine sp ?_; (iterate 3 (refine sp ?_)); apply s_pick; decide; (iterate 6 (simp only [go_sem]; rfl)); trivial; trivial; simp [condsOk]; refine qr ?_; refine sp ?_; (iterate 3 (refine sp ?_)); apply s_pick; decide; (iterate 6 (simp only [go_sem]; rfl)); trivial; trivial; simp [condsOk]; refine s_nil (hK _ _ ?_); clear hK K)
  generalize hgenq : AHeap.put p _ H = M; obtain ⟨g1, hextq⟩ := gen_ex hgenq hp; have hE := hextq; clear hextq hgenq
  skip
  refine cs (fun hc => ?_) (fun hc => ?_)
  · (apply sR; intro K hK; refine qr ?_; refine s_nil (hK _ _ ?_); clear hK K; apply AWp_ret; simp only [AThen, ABlock]; apply end_ret; rfl; simp only [AFr.get, reduceIte, Nat.reduceEqDiff])
    exact ⟨H, hE, h _ (fun h => by cases h)⟩
  (refine AWp_skip (hK _ _ ?_); clear hK K; apply sK; intro K hK; apply sR; intro K hK; refine qr ?_; refine s_nil (hK _ _ ?_); clear hK K; apply AWp_block)
  refine AWp_loop_s (σ := Nat) [1, 3] (fun i => [ptrTo p, .v (.int .i64 i)]) (fun _ => M) (fun i => e.prev.length - i) (fun i => i ≤ e.prev.length) 0 (Nat.zero_le _) rfl rfl (fun i hi => ?_)
  simp only [List.zip_cons_cons, List.zip_nil_right]
  (apply sK; intro K hK; apply sR; intro K hK; (iterate 5 (apply s_q; decide; rfl; (simp only [go_sem, g1]; rfl))); refine s_nil (hK _ _ ?_); clear hK K)
  refine cs (fun hd => ?_) (fun hd => ?_)
  · have hlt : i < e.prev.length := by simpa using hd
    obtain ⟨ky, hky⟩ := gete hlt
    have hgk := estr_at hky
    (refine AWp_skip (hK _ _ ?_); clear hK K; apply sK; intro K hK; apply AWp_block; apply sR; intro K hK; (iterate 7 (apply s_q; decide; rfl; (simp only [go_sem, g1, hgk]; rfl))); refine s_nil (hK _ _ ?_); clear hK K)
    refine cs (fun he => ?_) (fun he => ?_)
    · (apply sR; intro K hK; refine qr ?_; refine s_nil (hK _ _ ?_); clear hK K; apply AWp_ret; simp only [AThen, ABlock]; apply end_ret; rfl; simp only [AFr.get, reduceIte, Nat.reduceEqDiff])
      exact ⟨H, hE, h _ (fun h => by cases h)⟩
    · (refine AWp_skip (hK _ _ ?_); clear hK K; apply s_region; (iterate 3 (refine qr ?_)); apply s_nil; simp only [AThen, ABlock])
      refine ⟨i + 1, by omega, by omega, ?_, by trivial⟩
      simp only [getAll, List.map_cons, List.map_nil, AFr.get]
      rw [wrapS hlt (by omega)]; rfl
  (apply AWp_exit; simp only [AThen, ABlock, reduceIte, Nat.reduceEqDiff]; clear hK K; refine hK _ _ ?_; clear hK K; apply sK; intro K hK; apply sR; intro K hK; refine qr ?_; refine s_nil (hK _ _ ?_); clear hK K; apply AWp_block)
  refine AWp_loop_s (σ := Nat) [1, 4] (fun i => [ptrTo p, .v (.int .i64 i)]) (fun _ => M) (fun i => e.auth.length - i) (fun i => i ≤ e.auth.length) 0 (Nat.zero_le _) rfl rfl (fun i hi => ?_)
  simp only [List.zip_cons_cons, List.zip_nil_right]
  (apply sK; intro K hK; apply sR; intro K hK; (iterate 5 (apply s_q; decide; rfl; (simp only [go_sem, g1]; rfl))); refine s_nil (hK _ _ ?_); clear hK K)
  refine cs (fun hd => ?_) (fun hd => ?_)
  · have hlt : i < e.auth.length := by simpa using hd
    obtain ⟨ky, hky⟩ := gete hlt
    have hgk := estr_at hky
    (refine AWp_skip (hK _ _ ?_); clear hK K; apply sK; intro K hK; apply AWp_block; apply sR; intro K hK; (iterate 7 (apply s_q; decide; rfl; (simp only [go_sem, g1, hgk]; rfl))); refine s_nil (hK _ _ ?_); clear hK K)
    refine cs (fun he => ?_) (fun he => ?_)
    · (apply sR; intro K hK; refine qr ?_; refine s_nil (hK _ _ ?_); clear hK K; apply AWp_ret; simp only [AThen, ABlock]; apply end_ret; rfl; simp only [AFr.get, reduceIte, Nat.reduceEqDiff])
      exact ⟨H, hE, h _ (fun h => by cases h)⟩
    · (refine AWp_skip (hK _ _ ?_); clear hK K; apply s_region; (iterate 3 (refine qr ?_)); apply s_nil; simp only [AThen, ABlock])
      refine ⟨i + 1, by omega, by omega, ?_, by trivial⟩
      simp only [getAll, List.map_cons, List.map_nil, AFr.get]
      rw [wrapS hlt (by omega)]; rfl
  (apply AWp_exit; simp only [AThen, ABlock, reduceIte, Nat.reduceEqDiff]; clear hK K; refine hK _ _ ?_; clear hK K; apply sK; intro K hK; apply sR; intro K hK; refine qr ?_; refine s_nil (hK _ _ ?_); clear hK K; apply AWp_block)
  refine AWp_loop_s (σ := Nat) [1, 5] (fun i => [ptrTo p, .v (.int .i64 i)]) (fun _ => M) (fun i => e.sigs.length - i) (fun i => i ≤ e.sigs.length) 0 (Nat.zero_le _) rfl rfl (fun i hi => ?_)
  simp only [List.zip_cons_cons, List.zip_nil_right]
  (apply sK; intro K hK; apply sR; intro K hK; (iterate 5 (apply s_q; decide; rfl; (simp only [go_sem, g1]; rfl))); refine s_nil (hK _ _ ?_); clear hK K)
  refine cs (fun hd => ?_) (fun hd => ?_)
  · have hlt : i < e.sigs.length := by simpa using hd
    obtain ⟨ky, hky⟩ := gete hlt
    have hgk := sig_at hky
    (refine AWp_skip (hK _ _ ?_); clear hK K; apply sK; intro K hK; apply AWp_block; apply sK; intro K hK)
    apply AWp_drawA [0, 1, 2, 3, 4, 5, 6, 7, 8, 9, 10, 11, 12, 13, 14, 15] [] 0 (by exact mixed); kernel_rfl; (iterate 2 (simp only [go_sem]; rfl))
    ((iterate 16 (apply e_q; decide; (simp only [go_sem, g1, hgk]; rfl))); apply e_nil; refine t_nil (hK _ _ ?_); clear hK K)
    refine cs (fun he => ?_) (fun he => ?_)
    · (apply sR; intro K hK; refine qr ?_; refine s_nil (hK _ _ ?_); clear hK K; apply AWp_ret; simp only [AThen, ABlock]; apply end_ret; rfl; simp only [AFr.get, reduceIte, Nat.reduceEqDiff])
      exact ⟨H, hE, h _ (fun h => by cases h)⟩
    · (refine AWp_skip (hK _ _ ?_); clear hK K; apply s_region; (iterate 3 (refine qr ?_)); apply s_nil; simp only [AThen, ABlock])
      refine ⟨i + 1, by omega, by omega, ?_, by trivial⟩
      simp only [getAll, List.map_cons, List.map_nil, AFr.get]
      rw [wrapS hlt (by omega)]; rfl
  (apply AWp_exit; simp only [AThen, ABlock, reduceIte, Nat.reduceEqDiff]; clear hK K; refine hK _ _ ?_; clear hK K; apply sR; intro K hK; (iterate 2 (apply s_q; decide; rfl; (simp only [go_sem, g1]; rfl))); apply s_call; decide; (iterate 2 (simp only [go_sem, g1]; rfl)); apply hL; intro n3 hn3; (iterate 2 (apply s_q; decide; rfl; (simp only [go_sem, g1]; rfl))); refine s_nil (hK _ _ ?_); clear hK K; apply AWp_ret)
  exact ⟨H, hE, h _ (fun hb => hn3 (by simpa using hb))⟩


def inR (n : Nat) (x : Int) : Bool := decide (0 ≤ x) && decide (x < n)
def picks (P : List (List Int)) (R told : List Int) (i : Nat) (b : Int) : Bool :=
  (!decide ((i : Int) ∈ told)) && (P.getD i []).all (fun x => decide (x ∈ told)) && (decide (b < 0) || decide (R.getD i 0 < R.getD b.toNat 0))
def bestU (P : List (List Int)) (R told : List Int) : Nat → Int
  | 0 => -1
  | i + 1 => if picks P R told i (bestU P R told i) then i else bestU P R told i
theorem bestU_lt (P : List (List Int)) (R told : List Int) : ∀ n : Nat, bestU P R told n = -1 ∨ ∃ j : Nat, j < n ∧ bestU P R told n = j
  | 0 => .inl rfl
  | i + 1 => by
    rw [bestU]
    split
    · exact .inr ⟨i, Nat.lt_succ_self i, rfl⟩
    · rcases bestU_lt P R told i with h | ⟨j, h1, h2⟩
      · exact .inl h
      · exact .inr ⟨j, by omega, h2⟩
def refF (P : List (List Int)) (R : List Int) (n : Nat) : Nat → List Int → Option (List Int)
  | 0, told => some told
  | k + 1, told => if bestU P R told n < 0 then none else refF P R n k (told ++ [bestU P R told n])
def refL (P : List (List Int)) (R : List Int) : Option (List Int) :=
  if R.length = P.length ∧ (P.all fun l => l.all (inR P.length)) = true then refF P R P.length P.length [] else none
def resV (o : Option (List Int)) : AV := .tup [.sl false ((o.getD []).map intCells), .v (.int .i64 (if o.isSome then 0 else 1))]
theorem arr_of {H0 L : AHeap} {l : List Int} {a : AV} (h : RowAt 3 1 H0 L (l.map intCells) a) : Arr L l a := by
  rcases h with ⟨rfl, h2⟩ | ⟨b, _, rfl, h3⟩
  · have : l = [] := by simpa using h2
    subst this
    exact .inl ⟨true, rfl⟩
  · exact .inr (.inl ⟨b, false, by rw [List.length_map], h3⟩)

set_option maxHeartbeats 2000000 in
theorem refLinear_c (t1 t2 : Bool) (P : List (List Int)) (R : List Int) (hP : P.length ≤ 1000) (hPP : ∀ r ∈ P, r.length ≤ 1000) (hR : R.length ≤ 1000) (H : AHeap) (Kc : AV → AHeap → Prop) (h : Kc (resV (refL P R)) H) :
    ACall X 55 [.sl t1 (P.map rowCells), .sl t2 (R.map intCells)] H Kc := by
  obtain ⟨O, hO⟩ : ∃ O, refL P R = O := ⟨_, rfl⟩
  rw [hO] at h
  refine ACall.grP (e := 3) (sz := 1) h ?_
  clear h
  refine ACall_intro Tryz.func55 rfl (by kernel_rfl) (by rw [Tryz.ntmps55]; simp) ?_; rw [Tryz.ntmps55]; simp only [frame0, Nat.reduceAdd]
  (apply sR; intro K hK; (iterate 2 (refine qr ?_)); refine s_nil (hK _ _ ?_); clear hK K; apply sR; intro K hK; (iterate 3 (refine qr ?_)); refine s_nil (hK _ _ ?_); clear hK K; apply sK; intro K hK; apply sR; intro K hK; (iterate 4 (refine qr ?_)); refine s_nil (hK _ _ ?_); clear hK K)
  refine cs (fun hc => ?_) (fun hc => ?_)
  · have hne : R.length ≠ P.length := by simp at hc; omega
    rw [refL, if_neg (fun h => hne h.1)] at hO
    subst hO
    (apply sR; intro K hK; (iterate 2 (refine qr ?_)); refine s_nil (hK _ _ ?_); clear hK K; apply AWp_ret; simp only [AThen, ABlock]; apply end_ret; rfl; simp only [AFr.get, reduceIte, Nat.reduceEqDiff])
    exact ⟨H, .sl true [], rfl, Ext.refl _, .inl ⟨rfl, rfl, rfl⟩⟩
  have hRP : R.length = P.length := by simp at hc; omega
  clear hc
  (refine AWp_skip (hK _ _ ?_); clear hK K; apply sK; intro K hK; apply sR; intro K hK; refine qr ?_; refine s_nil (hK _ _ ?_); clear hK K; apply AWp_block)
  refine AWp_loop_s (σ := Nat) [0, 1, 6, 7] (fun i => [.sl t1 (P.map rowCells), .sl t2 (R.map intCells), .v (.int .i64 (P.length : Nat)), .v (.int .i64 i)]) (fun _ => H) (fun i => P.length - i) (fun i => i ≤ P.length ∧ (P.take i).all (fun l => l.all (inR P.length)) = true) 0 ⟨Nat.zero_le _, rfl⟩ rfl rfl (fun i hi => ?_)
  simp only [List.zip_cons_cons, List.zip_nil_right]
  (apply sK; intro K hK; apply sR; intro K hK; (iterate 3 (refine qr ?_)); refine s_nil (hK _ _ ?_); clear hK K)
  refine cs (fun hd => ?_) (fun hd => ?_)
  · have hlt : i < P.length := by simpa using hd
    obtain ⟨r, hr⟩ := gete hlt
    have hgr := row_at hr
    have hrl := hPP r (List.mem_of_getElem? hr)
    (refine AWp_skip (hK _ _ ?_); clear hK K; apply sK; intro K hK; apply AWp_block; apply sR; intro K hK; refine qr ?_; refine s_nil (hK _ _ ?_); clear hK K; apply AWp_block)
    refine AWp_loop_s (σ := Nat) [0, 1, 6, 7, 8] (fun k => [.sl t1 (P.map rowCells), .sl t2 (R.map intCells), .v (.int .i64 (P.length : Nat)), .v (.int .i64 i), .v (.int .i64 k)]) (fun _ => H) (fun k => r.length - k) (fun k => k ≤ r.length ∧ (r.take k).all (inR P.length) = true) 0 ⟨Nat.zero_le _, rfl⟩ rfl rfl (fun k hk => ?_)
    simp only [List.zip_cons_cons, List.zip_nil_right]
    (apply sK; intro K hK; apply sR; intro K hK; (iterate 7 (apply s_q; decide; rfl; (simp only [go_sem, hgr]; rfl))); refine s_nil (hK _ _ ?_); clear hK K)
    refine cs (fun he => ?_) (fun he => ?_)
    · have hkl : k < r.length := by simpa using he
      obtain ⟨x, hx⟩ := gete hkl
      have hgx := int_at hx
      (refine AWp_skip (hK _ _ ?_); clear hK K; apply sK; intro K hK; apply AWp_block; apply sR; intro K hK; (iterate 9 (apply s_q; decide; rfl; (simp only [go_sem, hgr, hgx]; rfl))); (iterate 2 (apply s_spec; decide; rfl; rfl; (iterate 4 (simp only [go_sem, hgr, hgx]; rfl)); trivial)); apply s_when; decide; (iterate 3 (simp only [go_sem, hgr, hgx]; rfl)); simp [condsOk]; (intro hg; (first | ((simp only [go_sem, hgr]; done)) | ((simp only [go_sem, hgr]; rfl)) | ((simp only [go_sem, hgx]; done)) | ((simp only [go_sem, hgx]; rfl)))); apply s_spec; decide; rfl; rfl; (iterate 4 (simp only [go_sem, hgr, hgx]; rfl)); simp [condsOk]; apply s_spec; decide; rfl; rfl; (iterate 4 (simp only [go_sem, hgr, hgx]; rfl)); trivial; apply s_when; decide; (iterate 3 (simp only [go_sem, hgr, hgx]; rfl)); simp [condsOk]; (intro hg; (first | ((simp only [go_sem, hgr]; done)) | ((simp only [go_sem, hgr]; rfl)) | ((simp only [go_sem, hgx]; done)) | ((simp only [go_sem, hgx]; rfl)))); apply s_spec; decide; rfl; rfl; (iterate 4 (simp only [go_sem, hgr, hgx]; rfl)); simp [condsOk]; apply s_spec; decide; rfl; rfl; (iterate 4 (simp only [go_sem, hgr, hgx]; rfl)); trivial; apply s_spec; decide; rfl; rfl; (iterate 4 (simp only [go_sem, hgr, hgx]; rfl)); simp [condsOk]; apply s_pick; decide; (iterate 6 (simp only [go_sem, hgr, hgx]; rfl)); trivial; trivial; simp [condsOk]; refine s_nil (hK _ _ ?_); clear hK K)
      refine cs (fun hz => ?_) (fun hz => ?_)
      · have hbad : inR P.length x = false := by
          rw [inR]; revert hz; simp; omega
        have hno : refL P R = none := by
          rw [refL, if_neg]
          rintro ⟨_, h2⟩
          rw [not_all hr (not_all hx hbad)] at h2
          cases h2
        rw [hno] at hO
        subst hO
        (apply sR; intro K hK; (iterate 2 (refine qr ?_)); refine s_nil (hK _ _ ?_); clear hK K; apply AWp_ret; simp only [AThen, ABlock]; apply end_ret; rfl; simp only [AFr.get, reduceIte, Nat.reduceEqDiff])
        exact ⟨H, .sl true [], rfl, Ext.refl _, .inl ⟨rfl, rfl, rfl⟩⟩
      · have hgood : inR P.length x = true := by
          rw [inR]; revert hz; simp
        (refine AWp_skip (hK _ _ ?_); clear hK K; apply s_region; (iterate 3 (refine qr ?_)); apply s_nil; simp only [AThen, ABlock])
        refine ⟨k + 1, by omega, ⟨by omega, by rw [all_take hx hk.2]; exact hgood⟩, ?_, by trivial⟩
        simp only [getAll, List.map, AFr.get, reduceIte, Nat.reduceEqDiff]
        rw [wrapS hkl (by omega)]; try rfl
    · have hge : r.length ≤ k := by simpa using he
      have hall : r.all (inR P.length) = true := by rw [← hk.2, List.take_of_length_le hge]
      (apply AWp_exit; simp only [AThen, ABlock, reduceIte, Nat.reduceEqDiff]; clear hK K; refine hK _ _ ?_; clear hK K; apply s_region; (iterate 3 (refine qr ?_)); apply s_nil; simp only [AThen, ABlock])
      refine ⟨i + 1, by omega, ⟨by omega, by rw [all_take hr hi.2]; exact hall⟩, ?_, by trivial⟩
      simp only [getAll, List.map, AFr.get, reduceIte, Nat.reduceEqDiff]
      rw [wrapS hlt (by omega)]; try rfl
  · have hge : P.length ≤ i := by simpa using hd
    have hall : P.all (fun l => l.all (inR P.length)) = true := by rw [← hi.2, List.take_of_length_le hge]
    rw [refL, if_pos ⟨hRP, hall⟩] at hO
    (apply AWp_exit; simp only [AThen, ABlock, reduceIte, Nat.reduceEqDiff]; clear hK K; refine hK _ _ ?_; clear hK K; apply sR; intro K hK; refine qr ?_; refine s_nil (hK _ _ ?_); clear hK K; apply sK; intro K hK; apply AWp_block)
    refine AWp_loop_s (σ := List Int × AV × AHeap) [0, 1, 6, 9] (fun s => [.sl t1 (P.map rowCells), .sl t2 (R.map intCells), .v (.int .i64 (P.length : Nat)), s.2.1]) (fun s => s.2.2) (fun s => P.length - s.1.length)
      (fun s => s.1.length ≤ P.length ∧ Ext H s.2.2 ∧ RowAt 3 1 H s.2.2 (s.1.map intCells) s.2.1 ∧ refF P R P.length (P.length - s.1.length) s.1 = O) ([], .sl true [], H) ⟨Nat.zero_le _, Ext.refl _, RowAt.nil _ _ _ _, hO⟩ rfl rfl (fun s hs => ?_)
    obtain ⟨told, a, L⟩ := s
    obtain ⟨hl, hE, hA, hF⟩ := hs
    simp only [List.zip_cons_cons, List.zip_nil_right] at hl hE hA hF ⊢
    have hlo := rowAt_len hA L (e' := 3) (s' := some 1)
    rw [List.length_map] at hlo
    (apply sK; intro K hK; apply sR; intro K hK; refine qr ?_; (apply s_q; decide; rfl; (simp only [go_sem]; exact hlo)); (iterate 2 (refine qr ?_)); refine s_nil (hK _ _ ?_); clear hK K)
    refine cs (fun hw => ?_) (fun hw => ?_)
    · have hlt : told.length < P.length := by simpa using hw
      (refine AWp_skip (hK _ _ ?_); clear hK K; apply AWp_block; apply sR; intro K hK; refine qr ?_; refine s_nil (hK _ _ ?_); clear hK K; apply sK; intro K hK; apply sR; intro K hK; refine qr ?_; refine s_nil (hK _ _ ?_); clear hK K; apply AWp_block)
      refine AWp_loop_s (σ := Nat) [0, 1, 6, 9, 10, 11] (fun i => [.sl t1 (P.map rowCells), .sl t2 (R.map intCells), .v (.int .i64 (P.length : Nat)), a, .v (.int .i64 (bestU P R told i)), .v (.int .i64 i)]) (fun _ => L) (fun i => P.length - i) (fun i => i ≤ P.length) 0 (Nat.zero_le _) rfl rfl (fun i hi => ?_)
      simp only [List.zip_cons_cons, List.zip_nil_right]
      (apply sK; intro K hK; apply sR; intro K hK; (iterate 3 (refine qr ?_)); refine s_nil (hK _ _ ?_); clear hK K)
      refine cs (fun hd => ?_) (fun hd => ?_)
      · have hil : i < P.length := by simpa using hd
        obtain ⟨r, hr⟩ := gete hil
        have hgr := row_at hr
        have hrl := hPP r (List.mem_of_getElem? hr)
        obtain ⟨x, hx⟩ := gete (l := R) (i := i) (by omega)
        have hgx := int_at hx
        have hpk : picks P R told i (bestU P R told i) = ((!decide ((i : Int) ∈ told)) && r.all (fun x => decide (x ∈ told)) && (decide (bestU P R told i < 0) || decide (x < R.getD (bestU P R told i).toNat 0))) := by
          rw [picks, List.getD_eq_getElem?_getD, hr, List.getD_eq_getElem?_getD, hx]; rfl
        have hbs : bestU P R told (i + 1) = if picks P R told i (bestU P R told i) then (i : Int) else bestU P R told i := rfl
        have harr := arr_of hA
        have hcase : (∃ t es, a = .sl t es) ∨ ∃ b n, a = .row b 1 n := by
          rcases hA with ⟨rfl, _⟩ | ⟨b, _, rfl, _⟩
          · exact .inl ⟨_, _, rfl⟩
          · exact .inr ⟨_, _, rfl⟩
        clear hA hlo
        rcases bestU_lt P R told i with hb0 | ⟨j, hj, hb0⟩
        · skip
          rw [hb0] at hpk hbs ⊢
          (refine AWp_skip (hK _ _ ?_); clear hK K; apply sK; intro K hK; apply AWp_block; apply sK; intro K hK)
          rcases hcase with ⟨t0, es0, rfl⟩ | ⟨b0, n0, rfl⟩
          · apply AWp_drawA [0, 1, 2, 3, 4, 5, 6, 7, 8, 9, 10, 11, 12, 13, 14, 15, 16, 17, 18, 19, 20, 21, 22, 23, 24, 25, 26] [] 0 (by exact mixed); kernel_rfl; (iterate 2 (simp only [go_sem]; rfl))
            ((iterate 2 (apply e_q; decide; (simp only [go_sem, hgr, hgx, decide_true, Bool.not_true, Bool.and_false]; rfl))); apply e_call; decide; (iterate 2 (simp only [go_sem, hgr, hgx, decide_true, Bool.not_true, Bool.and_false]; rfl)); (apply has_c _ told _ (by omega) L harr; exact ⟨rfl, rfl⟩); (iterate 2 (apply e_q; decide; (simp only [go_sem, hgr, hgx, decide_true, Bool.not_true, Bool.and_false]; rfl))); (iterate 2 (apply e_spec; decide; (iterate 4 (simp only [go_sem, hgr, hgx, decide_true, Bool.not_true, Bool.and_false]; rfl)); trivial)); (iterate 2 (apply e_spec; decide; (iterate 4 (simp only [go_sem, hgr, hgx, decide_true, Bool.not_true, Bool.and_false]; rfl)); simp [condsOk])); apply e_spec; decide; (iterate 4 (simp only [go_sem, hgr, hgx, decide_true, Bool.not_true, Bool.and_false]; rfl)); trivial; apply e_gpure; decide; (iterate 3 (simp only [go_sem, hgr, hgx, decide_true, Bool.not_true, Bool.and_false]; rfl)); simp [condsOk]; (iterate 2 (simp only [go_sem, hgr, hgx, decide_true, Bool.not_true, Bool.and_false]; rfl)); (apply ready_c false r told _ (by omega) (by omega) L harr; exact ⟨rfl, rfl⟩); apply e_pick; decide; (iterate 6 (simp only [go_sem, hgr, hgx, decide_true, Bool.not_true, Bool.and_false]; rfl)); trivial; simp [condsOk]; trivial; apply e_q; decide; (simp only [go_sem, hgr, hgx, decide_true, Bool.not_true, Bool.and_false]; rfl); apply e_spec; decide; (iterate 4 (simp only [go_sem, hgr, hgx, decide_true, Bool.not_true, Bool.and_false]; rfl)); trivial; (iterate 2 (apply e_spec; decide; (iterate 4 (simp only [go_sem, hgr, hgx, decide_true, Bool.not_true, Bool.and_false]; rfl)); simp [condsOk])); (iterate 6 (apply e_spec; decide; (iterate 4 (simp only [go_sem, hgr, hgx, decide_true, Bool.not_true, Bool.and_false]; rfl)); trivial)); (iterate 3 (apply e_when (av := (.v (.bool false))); decide; (iterate 3 (simp only [go_sem, hgr, hgx, decide_true, Bool.not_true, Bool.and_false]; rfl)); trivial; (focus (intro hg; first | (cases hg; done) | (simp at hg; done) | (simp at hg; omega))))); apply e_pickg; decide; (iterate 8 (simp only [go_sem, hgr, hgx, decide_true, Bool.not_true, Bool.and_false]; rfl)); simp [condsOk]; trivial; simp [condsOk]; apply e_pick; decide; (iterate 6 (simp only [go_sem, hgr, hgx, decide_true, Bool.not_true, Bool.and_false]; rfl)); trivial; simp [condsOk]; trivial; apply e_nil; refine t_nil (hK _ _ ?_); clear hK K)
            refine cs (fun hq => ?_) (fun hq => ?_)
            · have hp : picks P R told i (-1) = true := by
                rw [hpk]; revert hq
                generalize decide ((i : Int) ∈ told) = c1, (r.all fun x => decide (x ∈ told)) = c2
                simp only [show decide ((-1 : Int) < 0) = true from rfl, Bool.true_or, if_true]; revert c1 c2; decide
              (apply s_region; (iterate 2 (refine qr ?_)); refine s_nil (hK _ _ ?_); clear hK K; apply s_region; (iterate 3 (refine qr ?_)); apply s_nil; simp only [AThen, ABlock])
              refine ⟨i + 1, by omega, by omega, ?_, by trivial⟩
              simp only [getAll, List.map, AFr.get, reduceIte, Nat.reduceEqDiff]
              rw [wrapS hil (by omega), hbs, hp]; rfl
            · have hp : picks P R told i (-1) = false := by
                rw [hpk]; revert hq
                generalize decide ((i : Int) ∈ told) = c1, (r.all fun x => decide (x ∈ told)) = c2
                simp only [show decide ((-1 : Int) < 0) = true from rfl, Bool.true_or, if_true]; revert c1 c2; decide
              (refine AWp_skip (hK _ _ ?_); clear hK K; apply s_region; (iterate 3 (refine qr ?_)); apply s_nil; simp only [AThen, ABlock])
              refine ⟨i + 1, by omega, by omega, ?_, by trivial⟩
              simp only [getAll, List.map, AFr.get, reduceIte, Nat.reduceEqDiff]
              rw [wrapS hil (by omega), hbs, hp]; rfl
          · apply AWp_drawA [0, 1, 2, 3, 4, 5, 6, 7, 8, 9, 10, 11, 12, 13, 14, 15, 16, 17, 18, 19, 20, 21, 22, 23, 24, 25, 26] [] 0 (by exact mixed); kernel_rfl; (iterate 2 (simp only [go_sem]; rfl))
            ((iterate 2 (apply e_q; decide; (simp only [go_sem, hgr, hgx, decide_true, Bool.not_true, Bool.and_false]; rfl))); apply e_call; decide; (iterate 2 (simp only [go_sem, hgr, hgx, decide_true, Bool.not_true, Bool.and_false]; rfl)); (apply has_c _ told _ (by omega) L harr; exact ⟨rfl, rfl⟩); (iterate 2 (apply e_q; decide; (simp only [go_sem, hgr, hgx, decide_true, Bool.not_true, Bool.and_false]; rfl))); (iterate 2 (apply e_spec; decide; (iterate 4 (simp only [go_sem, hgr, hgx, decide_true, Bool.not_true, Bool.and_false]; rfl)); trivial)); (iterate 2 (apply e_spec; decide; (iterate 4 (simp only [go_sem, hgr, hgx, decide_true, Bool.not_true, Bool.and_false]; rfl)); simp [condsOk])); apply e_spec; decide; (iterate 4 (simp only [go_sem, hgr, hgx, decide_true, Bool.not_true, Bool.and_false]; rfl)); trivial; apply e_gpure; decide; (iterate 3 (simp only [go_sem, hgr, hgx, decide_true, Bool.not_true, Bool.and_false]; rfl)); simp [condsOk]; (iterate 2 (simp only [go_sem, hgr, hgx, decide_true, Bool.not_true, Bool.and_false]; rfl)); (apply ready_c false r told _ (by omega) (by omega) L harr; exact ⟨rfl, rfl⟩); apply e_pick; decide; (iterate 6 (simp only [go_sem, hgr, hgx, decide_true, Bool.not_true, Bool.and_false]; rfl)); trivial; simp [condsOk]; trivial; apply e_q; decide; (simp only [go_sem, hgr, hgx, decide_true, Bool.not_true, Bool.and_false]; rfl); apply e_spec; decide; (iterate 4 (simp only [go_sem, hgr, hgx, decide_true, Bool.not_true, Bool.and_false]; rfl)); trivial; (iterate 2 (apply e_spec; decide; (iterate 4 (simp only [go_sem, hgr, hgx, decide_true, Bool.not_true, Bool.and_false]; rfl)); simp [condsOk])); (iterate 6 (apply e_spec; decide; (iterate 4 (simp only [go_sem, hgr, hgx, decide_true, Bool.not_true, Bool.and_false]; rfl)); trivial)); (iterate 3 (apply e_when (av := (.v (.bool false))); decide; (iterate 3 (simp only [go_sem, hgr, hgx, decide_true, Bool.not_true, Bool.and_false]; rfl)); trivial; (focus (intro hg; first | (cases hg; done) | (simp at hg; done) | (simp at hg; omega))))); apply e_pickg; decide; (iterate 8 (simp only [go_sem, hgr, hgx, decide_true, Bool.not_true, Bool.and_false]; rfl)); simp [condsOk]; trivial; simp [condsOk]; apply e_pick; decide; (iterate 6 (simp only [go_sem, hgr, hgx, decide_true, Bool.not_true, Bool.and_false]; rfl)); trivial; simp [condsOk]; trivial; apply e_nil; refine t_nil (hK _ _ ?_); clear hK K)
            refine cs (fun hq => ?_) (fun hq => ?_)
            · have hp : picks P R told i (-1) = true := by
                rw [hpk]; revert hq
                generalize decide ((i : Int) ∈ told) = c1, (r.all fun x => decide (x ∈ told)) = c2
                simp only [show decide ((-1 : Int) < 0) = true from rfl, Bool.true_or, if_true]; revert c1 c2; decide
              (apply s_region; (iterate 2 (refine qr ?_)); refine s_nil (hK _ _ ?_); clear hK K; apply s_region; (iterate 3 (refine qr ?_)); apply s_nil; simp only [AThen, ABlock])
              refine ⟨i + 1, by omega, by omega, ?_, by trivial⟩
              simp only [getAll, List.map, AFr.get, reduceIte, Nat.reduceEqDiff]
              rw [wrapS hil (by omega), hbs, hp]; rfl
            · have hp : picks P R told i (-1) = false := by
                rw [hpk]; revert hq
                generalize decide ((i : Int) ∈ told) = c1, (r.all fun x => decide (x ∈ told)) = c2
                simp only [show decide ((-1 : Int) < 0) = true from rfl, Bool.true_or, if_true]; revert c1 c2; decide
              (refine AWp_skip (hK _ _ ?_); clear hK K; apply s_region; (iterate 3 (refine qr ?_)); apply s_nil; simp only [AThen, ABlock])
              refine ⟨i + 1, by omega, by omega, ?_, by trivial⟩
              simp only [getAll, List.map, AFr.get, reduceIte, Nat.reduceEqDiff]
              rw [wrapS hil (by omega), hbs, hp]; rfl
        · obtain ⟨y, hy⟩ := gete (l := R) (i := j) (by omega)
          have hgy := int_at hy
          rw [hb0] at hpk hbs ⊢
          (refine AWp_skip (hK _ _ ?_); clear hK K; apply sK; intro K hK; apply AWp_block; apply sK; intro K hK)
          rcases hcase with ⟨t0, es0, rfl⟩ | ⟨b0, n0, rfl⟩
          · apply AWp_drawA [0, 1, 2, 3, 4, 5, 6, 7, 8, 9, 10, 11, 12, 13, 14, 15, 16, 17, 18, 19, 20, 21, 22, 23, 24, 25, 26] [] 0 (by exact mixed); kernel_rfl; (iterate 2 (simp only [go_sem]; rfl))
            ((iterate 2 (apply e_q; decide; (simp only [go_sem, hgr, hgx, hgy]; rfl))); apply e_call; decide; (iterate 2 (simp only [go_sem, hgr, hgx, hgy]; rfl)); (apply has_c _ told _ (by omega) L harr; exact ⟨rfl, rfl⟩); (iterate 2 (apply e_q; decide; (simp only [go_sem, hgr, hgx, hgy]; rfl))); (iterate 2 (apply e_spec; decide; (iterate 4 (simp only [go_sem, hgr, hgx, hgy]; rfl)); trivial)); (iterate 2 (apply e_spec; decide; (iterate 4 (simp only [go_sem, hgr, hgx, hgy]; rfl)); simp [condsOk])); apply e_spec; decide; (iterate 4 (simp only [go_sem, hgr, hgx, hgy]; rfl)); trivial; apply e_gpure; decide; (iterate 3 (simp only [go_sem, hgr, hgx, hgy]; rfl)); simp [condsOk]; (iterate 2 (simp only [go_sem, hgr, hgx, hgy]; rfl)); (apply ready_c false r told _ (by omega) (by omega) L harr; exact ⟨rfl, rfl⟩); apply e_pick; decide; (iterate 6 (simp only [go_sem, hgr, hgx, hgy]; rfl)); trivial; simp [condsOk]; trivial; apply e_q; decide; (simp only [go_sem, hgr, hgx, hgy]; rfl); apply e_spec; decide; (iterate 4 (simp only [go_sem, hgr, hgx, hgy]; rfl)); trivial; (iterate 2 (apply e_spec; decide; (iterate 4 (simp only [go_sem, hgr, hgx, hgy]; rfl)); simp [condsOk])); (iterate 2 (apply e_spec; decide; (iterate 4 (simp only [go_sem, hgr, hgx, hgy]; rfl)); trivial)); (iterate 2 (apply e_spec; decide; (iterate 4 (simp only [go_sem, hgr, hgx, hgy]; rfl)); simp [condsOk])); (iterate 2 (apply e_spec; decide; (iterate 4 (simp only [go_sem, hgr, hgx, hgy]; rfl)); trivial)); (iterate 3 (apply e_spec; decide; (iterate 4 (simp only [go_sem, hgr, hgx, hgy]; rfl)); simp [condsOk])); apply e_pickg; decide; (iterate 8 (simp only [go_sem, hgr, hgx, hgy]; rfl)); simp [condsOk]; trivial; simp [condsOk]; apply e_pick; decide; (iterate 6 (simp only [go_sem, hgr, hgx, hgy]; rfl)); trivial; simp [condsOk]; trivial; apply e_nil; refine t_nil (hK _ _ ?_); clear hK K)
            refine cs (fun hq => ?_) (fun hq => ?_)
            · have hp : picks P R told i ((j : Int)) = true := by
                rw [hpk]; revert hq
                generalize decide ((i : Int) ∈ told) = c1, (r.all fun x => decide (x ∈ told)) = c2
                rw [show (j : Int).toNat = j from rfl, List.getD_eq_getElem?_getD, hy, Option.getD_some, show decide ((j : Int) < 0) = false from decide_eq_false (by omega)]
                generalize decide (x < y) = c3
                revert c1 c2 c3; decide
              (apply s_region; (iterate 2 (refine qr ?_)); refine s_nil (hK _ _ ?_); clear hK K; apply s_region; (iterate 3 (refine qr ?_)); apply s_nil; simp only [AThen, ABlock])
              refine ⟨i + 1, by omega, by omega, ?_, by trivial⟩
              simp only [getAll, List.map, AFr.get, reduceIte, Nat.reduceEqDiff]
              rw [wrapS hil (by omega), hbs, hp]; rfl
            · have hp : picks P R told i ((j : Int)) = false := by
                rw [hpk]; revert hq
                generalize decide ((i : Int) ∈ told) = c1, (r.all fun x => decide (x ∈ told)) = c2
                rw [show (j : Int).toNat = j from rfl, List.getD_eq_getElem?_getD, hy, Option.getD_some, show decide ((j : Int) < 0) = false from decide_eq_false (by omega)]
                generalize decide (x < y) = c3
                revert c1 c2 c3; decide
              (refine AWp_skip (hK _ _ ?_); clear hK K; apply s_region; (iterate 3 (refine qr ?_)); apply s_nil; simp only [AThen, ABlock])
              refine ⟨i + 1, by omega, by omega, ?_, by trivial⟩
              simp only [getAll, List.map, AFr.get, reduceIte, Nat.reduceEqDiff]
              rw [wrapS hil (by omega), hbs, hp]; rfl
          · apply AWp_drawA [0, 1, 2, 3, 4, 5, 6, 7, 8, 9, 10, 11, 12, 13, 14, 15, 16, 17, 18, 19, 20, 21, 22, 23, 24, 25, 26] [] 0 (by exact mixed); kernel_rfl; (iterate 2 (simp only [go_sem]; rfl))
            ((iterate 2 (apply e_q; decide; (simp only [go_sem, hgr, hgx, hgy]; rfl))); apply e_call; decide; (iterate 2 (simp only [go_sem, hgr, hgx, hgy]; rfl)); (apply has_c _ told _ (by omega) L harr; exact ⟨rfl, rfl⟩); (iterate 2 (apply e_q; decide; (simp only [go_sem, hgr, hgx, hgy]; rfl))); (iterate 2 (apply e_spec; decide; (iterate 4 (simp only [go_sem, hgr, hgx, hgy]; rfl)); trivial)); (iterate 2 (apply e_spec; decide; (iterate 4 (simp only [go_sem, hgr, hgx, hgy]; rfl)); simp [condsOk])); apply e_spec; decide; (iterate 4 (simp only [go_sem, hgr, hgx, hgy]; rfl)); trivial; apply e_gpure; decide; (iterate 3 (simp only [go_sem, hgr, hgx, hgy]; rfl)); simp [condsOk]; (iterate 2 (simp only [go_sem, hgr, hgx, hgy]; rfl)); (apply ready_c false r told _ (by omega) (by omega) L harr; exact ⟨rfl, rfl⟩); apply e_pick; decide; (iterate 6 (simp only [go_sem, hgr, hgx, hgy]; rfl)); trivial; simp [condsOk]; trivial; apply e_q; decide; (simp only [go_sem, hgr, hgx, hgy]; rfl); apply e_spec; decide; (iterate 4 (simp only [go_sem, hgr, hgx, hgy]; rfl)); trivial; (iterate 2 (apply e_spec; decide; (iterate 4 (simp only [go_sem, hgr, hgx, hgy]; rfl)); simp [condsOk])); (iterate 2 (apply e_spec; decide; (iterate 4 (simp only [go_sem, hgr, hgx, hgy]; rfl)); trivial)); (iterate 2 (apply e_spec; decide; (iterate 4 (simp only [go_sem, hgr, hgx, hgy]; rfl)); simp [condsOk])); (iterate 2 (apply e_spec; decide; (iterate 4 (simp only [go_sem, hgr, hgx, hgy]; rfl)); trivial)); (iterate 3 (apply e_spec; decide; (iterate 4 (simp only [go_sem, hgr, hgx, hgy]; rfl)); simp [condsOk])); apply e_pickg; decide; (iterate 8 (simp only [go_sem, hgr, hgx, hgy]; rfl)); simp [condsOk]; trivial; simp [condsOk]; apply e_pick; decide; (iterate 6 (simp only [go_sem, hgr, hgx, hgy]; rfl)); trivial; simp [condsOk]; trivial; apply e_nil; refine t_nil (hK _ _ ?_); clear hK K)
            refine cs (fun hq => ?_) (fun hq => ?_)
            · have hp : picks P R told i ((j : Int)) = true := by
                rw [hpk]; revert hq
                generalize decide ((i : Int) ∈ told) = c1, (r.all fun x => decide (x ∈ told)) = c2
                rw [show (j : Int).toNat = j from rfl, List.getD_eq_getElem?_getD, hy, Option.getD_some, show decide ((j : Int) < 0) = false from decide_eq_false (by omega)]
                generalize decide (x < y) = c3
                revert c1 c2 c3; decide
              (apply s_region; (iterate 2 (refine qr ?_)); refine s_nil (hK _ _ ?_); clear hK K; apply s_region; (iterate 3 (refine qr ?_)); apply s_nil; simp only [AThen, ABlock])
              refine ⟨i + 1, by omega, by omega, ?_, by trivial⟩
              simp only [getAll, List.map, AFr.get, reduceIte, Nat.reduceEqDiff]
              rw [wrapS hil (by omega), hbs, hp]; rfl
            · have hp : picks P R told i ((j : Int)) = false := by
                rw [hpk]; revert hq
                generalize decide ((i : Int) ∈ told) = c1, (r.all fun x => decide (x ∈ told)) = c2
                rw [show (j : Int).toNat = j from rfl, List.getD_eq_getElem?_getD, hy, Option.getD_some, show decide ((j : Int) < 0) = false from decide_eq_false (by omega)]
                generalize decide (x < y) = c3
                revert c1 c2 c3; decide
              (refine AWp_skip (hK _ _ ?_); clear hK K; apply s_region; (iterate 3 (refine qr ?_)); apply s_nil; simp only [AThen, ABlock])
              refine ⟨i + 1, by omega, by omega, ?_, by trivial⟩
              simp only [getAll, List.map, AFr.get, reduceIte, Nat.reduceEqDiff]
              rw [wrapS hil (by omega), hbs, hp]; rfl
      · have hge : i = P.length := by simp at hd; omega
        subst hge
        (apply AWp_exit; simp only [AThen, ABlock, reduceIte, Nat.reduceEqDiff]; clear hK K; refine hK _ _ ?_; clear hK K; apply sK; intro K hK; apply sR; intro K hK; (iterate 2 (refine qr ?_)); refine s_nil (hK _ _ ?_); clear hK K)
        refine cs (fun hz => ?_) (fun hz => ?_)
        · have hbn : bestU P R told P.length < 0 := by simpa using hz
          have e : O = none := by
            rw [← hF]
            obtain ⟨k, hk⟩ : ∃ k, P.length - told.length = k + 1 := ⟨P.length - told.length - 1, by omega⟩
            rw [hk, refF, if_pos hbn]
          subst e
          (apply sR; intro K hK; (iterate 2 (refine qr ?_)); refine s_nil (hK _ _ ?_); clear hK K; apply AWp_ret; simp only [AThen, ABlock]; apply end_ret; rfl; simp only [AFr.get, reduceIte, Nat.reduceEqDiff])
          exact ⟨L, .sl true [], rfl, hE, .inl ⟨rfl, rfl, rfl⟩⟩
        · have hbn : ¬ bestU P R told P.length < 0 := by simpa using hz
          (refine AWp_skip (hK _ _ ?_); clear hK K; apply s_region; (iterate 2 (refine qr ?_)); apply s_lit; decide; exact el_38; (iterate 2 (simp only [go_sem]; rfl)); decide; apply s_append; decide; (iterate 2 (simp only [go_sem]; rfl)); apply AApp_at el_38 hE hA (l := told) (m := [bestU P R told P.length]) (g := intCells) rfl rfl tk_38 int_one (by simp; omega) (by simp; omega); intro s2 L2 k1 k2 k3; refine qr ?_; apply s_nil; simp only [AThen, ABlock])
          refine ⟨(told ++ [bestU P R told P.length], s2, L2), by simp; omega, ⟨by simp; omega, k2, k1, ?_⟩, by trivial, by trivial⟩
          simp only
          rw [← hF]
          obtain ⟨k, hk⟩ : ∃ k, P.length - told.length = k + 1 := ⟨P.length - told.length - 1, by omega⟩
          rw [hk, refF, if_neg hbn]
          congr 1
          simp; omega
    · have hge : told.length = P.length := by simp at hw; omega
      rw [hge, Nat.sub_self, refF] at hF
      subst hF
      (apply AWp_exit; simp only [AThen, ABlock, reduceIte, Nat.reduceEqDiff]; clear hK K; refine hK _ _ ?_; clear hK K; apply sR; intro K hK; (iterate 3 (refine qr ?_)); refine s_nil (hK _ _ ?_); clear hK K; apply AWp_ret)
      obtain ⟨L0, h1, h2⟩ := hA.toGr hE
      exact ⟨L0, a, rfl, h1, h2⟩
end Go.Proofs.YtcpfgjfiacfmoaaGreatDoor
