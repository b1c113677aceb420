/-
  The facts of this program's types, in short: each by the kernel's own reckoning. Printed by a program.
-/
import Derived.Test.YtmloandpjbimkaaProg
import Derived.Test.YtmloandpjbimkaaAL2
import Derived.Lib.ValidLaws
import Derived.KernelRfl
namespace Go.Proofs.Ytmloandpjbimkaa
open Go Go.AL

noncomputable def X : Ctx := ⟨Try.prog, fun F => ∃ m, F ⟨0, 0, none⟩ (.int .i64 m), fun _ _ h ⟨m, k⟩ => ⟨m, h _ _ k⟩, False⟩


theorem mixed : X.P.follows .mixedOrders = true := by kernel_rfl
theorem tk_2 : tk X.P 2 = (.int .i64) := by kernel_rfl
theorem lay_2 : lay X.P 2 = (some (false, 1)) := by kernel_rfl
theorem sz_2 : AL.sz? X.P 2 = (some 1) := by kernel_rfl
theorem zc_2 : zC X.P 2 = (some [(.v (.int .i64 (0)))]) := by kernel_rfl
theorem tk_3 : tk X.P 3 = (.int .i64) := by kernel_rfl
theorem lay_3 : lay X.P 3 = (some (false, 1)) := by kernel_rfl
theorem sz_3 : AL.sz? X.P 3 = (some 1) := by kernel_rfl
theorem zc_3 : zC X.P 3 = (some [(.v (.int .i64 (0)))]) := by kernel_rfl
theorem tk_4 : tk X.P 4 = .bool := by kernel_rfl
theorem lay_4 : lay X.P 4 = (some (false, 1)) := by kernel_rfl
theorem sz_4 : AL.sz? X.P 4 = (some 1) := by kernel_rfl
theorem zc_4 : zC X.P 4 = (some [(.v (.bool false))]) := by kernel_rfl
theorem tk_5 : tk X.P 5 = (.int .u8) := by kernel_rfl
theorem lay_5 : lay X.P 5 = (some (false, 1)) := by kernel_rfl
theorem sz_5 : AL.sz? X.P 5 = (some 1) := by kernel_rfl
theorem zc_5 : zC X.P 5 = (some [(.v (.int .u8 (0)))]) := by kernel_rfl
theorem tk_9 : tk X.P 9 = .str := by kernel_rfl
theorem lay_9 : lay X.P 9 = (some (false, 1)) := by kernel_rfl
theorem sz_9 : AL.sz? X.P 9 = (some 1) := by kernel_rfl
theorem zc_9 : zC X.P 9 = (some [(.s [])]) := by kernel_rfl
theorem tk_22 : tk X.P 22 = (.sl 9 (some 1)) := by kernel_rfl
theorem lay_22 : lay X.P 22 = (some (false, 1)) := by kernel_rfl
theorem sz_22 : AL.sz? X.P 22 = (some 1) := by kernel_rfl
theorem zc_22 : zC X.P 22 = (some [(.sl true [])]) := by kernel_rfl
theorem el_22 : elT X.P 22 = (some (9, (1, 16))) := by kernel_rfl
theorem tk_23 : tk X.P 23 = (.sl 25 (some 5)) := by kernel_rfl
theorem lay_23 : lay X.P 23 = (some (false, 1)) := by kernel_rfl
theorem sz_23 : AL.sz? X.P 23 = (some 1) := by kernel_rfl
theorem zc_23 : zC X.P 23 = (some [(.sl true [])]) := by kernel_rfl
theorem el_23 : elT X.P 23 = (some (25, (5, 80))) := by kernel_rfl
theorem tk_25 : tk X.P 25 = (.st [(some (0, (1, false))), (some (1, (1, false))), (some (2, (1, false))), (some (3, (1, false))), (some (4, (1, false)))]) := by kernel_rfl
theorem lay_25 : lay X.P 25 = (some (true, 5)) := by kernel_rfl
theorem sz_25 : AL.sz? X.P 25 = (some 5) := by kernel_rfl
theorem zc_25 : zC X.P 25 = (some [(.v (.int .i64 (0))), (.v (.int .i64 (0))), (.s []), (.sl true []), (.sl true [])]) := by kernel_rfl
theorem bt_25 : buildT X.P 25 = (some ([(.v (.int .i64 (0))), (.v (.int .i64 (0))), (.s []), (.sl true []), (.sl true [])], [(0, 1), (1, 1), (2, 1), (3, 1), (4, 1)])) := by kernel_rfl
theorem tk_26 : tk X.P 26 = (.sl 52 (some 2)) := by kernel_rfl
theorem lay_26 : lay X.P 26 = (some (false, 1)) := by kernel_rfl
theorem sz_26 : AL.sz? X.P 26 = (some 1) := by kernel_rfl
theorem zc_26 : zC X.P 26 = (some [(.sl true [])]) := by kernel_rfl
theorem el_26 : elT X.P 26 = (some (52, (2, 32))) := by kernel_rfl
theorem tk_28 : tk X.P 28 = (.st [(some (0, (1, false))), (some (1, (1, false))), (some (2, (1, false))), (some (3, (1, false))), (some (4, (1, false))), (some (5, (5, true))), (some (10, (1, false))), (some (11, (1, false))), (some (12, (1, false))), (some (13, (1, false))), (some (14, (1, false))), (some (15, (1, false)))]) := by kernel_rfl
theorem lay_28 : lay X.P 28 = (some (true, 16)) := by kernel_rfl
theorem sz_28 : AL.sz? X.P 28 = (some 16) := by kernel_rfl
theorem zc_28 : zC X.P 28 = (some [(.s []), (.s []), (.s []), (.v (.bool false)), (.s []), (.v (.int .i64 (0))), (.v (.int .i64 (0))), (.s []), (.sl true []), (.sl true []), (.sl true []), (.sl true []), (.v (.int .i64 (0))), (.v (.int .i64 (0))), (.s []), (.sl true [])]) := by kernel_rfl
theorem bt_28 : buildT X.P 28 = (some ([(.s []), (.s []), (.s []), (.v (.bool false)), (.s []), (.v (.int .i64 (0))), (.v (.int .i64 (0))), (.s []), (.sl true []), (.sl true []), (.sl true []), (.sl true []), (.v (.int .i64 (0))), (.v (.int .i64 (0))), (.s []), (.sl true [])], [(0, 1), (1, 1), (2, 1), (3, 1), (4, 1), (5, 5), (10, 1), (11, 1), (12, 1), (13, 1), (14, 1), (15, 1)])) := by kernel_rfl
theorem tk_33 : tk X.P 33 = (.sl 35 (some 17)) := by kernel_rfl
theorem lay_33 : lay X.P 33 = (some (false, 1)) := by kernel_rfl
theorem sz_33 : AL.sz? X.P 33 = (some 1) := by kernel_rfl
theorem zc_33 : zC X.P 33 = (some [(.sl true [])]) := by kernel_rfl
theorem el_33 : elT X.P 33 = (some (35, (17, 272))) := by kernel_rfl
theorem tk_35 : tk X.P 35 = (.st [(some (0, (1, false))), (some (1, (16, true)))]) := by kernel_rfl
theorem lay_35 : lay X.P 35 = (some (true, 17)) := by kernel_rfl
theorem sz_35 : AL.sz? X.P 35 = (some 17) := by kernel_rfl
theorem zc_35 : zC X.P 35 = (some [(.s []), (.s []), (.s []), (.s []), (.v (.bool false)), (.s []), (.v (.int .i64 (0))), (.v (.int .i64 (0))), (.s []), (.sl true []), (.sl true []), (.sl true []), (.sl true []), (.v (.int .i64 (0))), (.v (.int .i64 (0))), (.s []), (.sl true [])]) := by kernel_rfl
theorem bt_35 : buildT X.P 35 = (some ([(.s []), (.s []), (.s []), (.s []), (.v (.bool false)), (.s []), (.v (.int .i64 (0))), (.v (.int .i64 (0))), (.s []), (.sl true []), (.sl true []), (.sl true []), (.sl true []), (.v (.int .i64 (0))), (.v (.int .i64 (0))), (.s []), (.sl true [])], [(0, 1), (1, 16)])) := by kernel_rfl
theorem tk_41 : tk X.P 41 = (.sl 50 (some 2)) := by kernel_rfl
theorem lay_41 : lay X.P 41 = (some (false, 1)) := by kernel_rfl
theorem sz_41 : AL.sz? X.P 41 = (some 1) := by kernel_rfl
theorem zc_41 : zC X.P 41 = (some [(.sl true [])]) := by kernel_rfl
theorem el_41 : elT X.P 41 = (some (50, (2, 40))) := by kernel_rfl
theorem tk_45 : tk X.P 45 = (.st [(some (0, (1, false))), (some (1, (1, false)))]) := by kernel_rfl
theorem lay_45 : lay X.P 45 = (some (true, 2)) := by kernel_rfl
theorem sz_45 : AL.sz? X.P 45 = (some 2) := by kernel_rfl
theorem zc_45 : zC X.P 45 = (some [(.v (.int .i64 (0))), (.s [])]) := by kernel_rfl
theorem bt_45 : buildT X.P 45 = (some ([(.v (.int .i64 (0))), (.s [])], [(0, 1), (1, 1)])) := by kernel_rfl
theorem tk_50 : tk X.P 50 = (.st [(some (0, (1, false))), (some (1, (1, false)))]) := by kernel_rfl
theorem lay_50 : lay X.P 50 = (some (true, 2)) := by kernel_rfl
theorem sz_50 : AL.sz? X.P 50 = (some 2) := by kernel_rfl
theorem zc_50 : zC X.P 50 = (some [(.s []), (.sl true [])]) := by kernel_rfl
theorem bt_50 : buildT X.P 50 = (some ([(.s []), (.sl true [])], [(0, 1), (1, 1)])) := by kernel_rfl
theorem tk_52 : tk X.P 52 = (.st [(some (0, (1, false))), (some (1, (1, false)))]) := by kernel_rfl
theorem lay_52 : lay X.P 52 = (some (true, 2)) := by kernel_rfl
theorem sz_52 : AL.sz? X.P 52 = (some 2) := by kernel_rfl
theorem zc_52 : zC X.P 52 = (some [(.s []), (.s [])]) := by kernel_rfl
theorem bt_52 : buildT X.P 52 = (some ([(.s []), (.s [])], [(0, 1), (1, 1)])) := by kernel_rfl
theorem tk_61 : tk X.P 61 = .func := by kernel_rfl
theorem lay_61 : lay X.P 61 = (some (false, 1)) := by kernel_rfl
theorem sz_61 : AL.sz? X.P 61 = (some 1) := by kernel_rfl
theorem zc_61 : zC X.P 61 = (some [(.v .nilFunc)]) := by kernel_rfl
theorem tk_62 : tk X.P 62 = (.map 9 28) := by kernel_rfl
theorem lay_62 : lay X.P 62 = (some (false, 1)) := by kernel_rfl
theorem sz_62 : AL.sz? X.P 62 = (some 1) := by kernel_rfl
theorem zc_62 : zC X.P 62 = (some [(.v (.map none))]) := by kernel_rfl
theorem mp_62 : mapT X.P 62 = (some (.str, (some (.agg [(.s []), (.s []), (.s []), (.v (.bool false)), (.s []), (.v (.int .i64 (0))), (.v (.int .i64 (0))), (.s []), (.sl true []), (.sl true []), (.sl true []), (.sl true []), (.v (.int .i64 (0))), (.v (.int .i64 (0))), (.s []), (.sl true [])])))) := by kernel_rfl
theorem tk_65 : tk X.P 65 = .func := by kernel_rfl
theorem lay_65 : lay X.P 65 = (some (false, 1)) := by kernel_rfl
theorem sz_65 : AL.sz? X.P 65 = (some 1) := by kernel_rfl
theorem zc_65 : zC X.P 65 = (some [(.v .nilFunc)]) := by kernel_rfl
theorem tk_67 : tk X.P 67 = (.map 9 68) := by kernel_rfl
theorem lay_67 : lay X.P 67 = (some (false, 1)) := by kernel_rfl
theorem sz_67 : AL.sz? X.P 67 = (some 1) := by kernel_rfl
theorem zc_67 : zC X.P 67 = (some [(.v (.map none))]) := by kernel_rfl
theorem mp_67 : mapT X.P 67 = (some (.str, (some (.v (.map none))))) := by kernel_rfl
theorem tk_68 : tk X.P 68 = (.map 9 4) := by kernel_rfl
theorem lay_68 : lay X.P 68 = (some (false, 1)) := by kernel_rfl
theorem sz_68 : AL.sz? X.P 68 = (some 1) := by kernel_rfl
theorem zc_68 : zC X.P 68 = (some [(.v (.map none))]) := by kernel_rfl
theorem mp_68 : mapT X.P 68 = (some (.str, (some (.v (.bool false))))) := by kernel_rfl
theorem tk_71 : tk X.P 71 = .func := by kernel_rfl
theorem lay_71 : lay X.P 71 = (some (false, 1)) := by kernel_rfl
theorem sz_71 : AL.sz? X.P 71 = (some 1) := by kernel_rfl
theorem zc_71 : zC X.P 71 = (some [(.v .nilFunc)]) := by kernel_rfl
theorem tk_77 : tk X.P 77 = .func := by kernel_rfl
theorem lay_77 : lay X.P 77 = (some (false, 1)) := by kernel_rfl
theorem sz_77 : AL.sz? X.P 77 = (some 1) := by kernel_rfl
theorem zc_77 : zC X.P 77 = (some [(.v .nilFunc)]) := by kernel_rfl
theorem tk_84 : tk X.P 84 = (.sl 5 (some 1)) := by kernel_rfl
theorem lay_84 : lay X.P 84 = (some (false, 1)) := by kernel_rfl
theorem sz_84 : AL.sz? X.P 84 = (some 1) := by kernel_rfl
theorem zc_84 : zC X.P 84 = (some [(.sl true [])]) := by kernel_rfl
theorem el_84 : elT X.P 84 = (some (5, (1, 1))) := by kernel_rfl
theorem tk_85 : tk X.P 85 = (.int .i64) := by kernel_rfl
theorem lay_85 : lay X.P 85 = (some (false, 1)) := by kernel_rfl
theorem sz_85 : AL.sz? X.P 85 = (some 1) := by kernel_rfl
theorem zc_85 : zC X.P 85 = (some [(.v (.int .i64 (0)))]) := by kernel_rfl
theorem tk_94 : tk X.P 94 = (.int .u64) := by kernel_rfl
theorem lay_94 : lay X.P 94 = (some (false, 1)) := by kernel_rfl
theorem sz_94 : AL.sz? X.P 94 = (some 1) := by kernel_rfl
theorem zc_94 : zC X.P 94 = (some [(.v (.int .u64 (0)))]) := by kernel_rfl
theorem tk_95 : tk X.P 95 = (.sl 3 (some 1)) := by kernel_rfl
theorem lay_95 : lay X.P 95 = (some (false, 1)) := by kernel_rfl
theorem sz_95 : AL.sz? X.P 95 = (some 1) := by kernel_rfl
theorem zc_95 : zC X.P 95 = (some [(.sl true [])]) := by kernel_rfl
theorem el_95 : elT X.P 95 = (some (3, (1, 8))) := by kernel_rfl
theorem tk_103 : tk X.P 103 = (.int .i64) := by kernel_rfl
theorem lay_103 : lay X.P 103 = (some (false, 1)) := by kernel_rfl
theorem sz_103 : AL.sz? X.P 103 = (some 1) := by kernel_rfl
theorem zc_103 : zC X.P 103 = (some [(.v (.int .i64 (0)))]) := by kernel_rfl
theorem tk_111 : tk X.P 111 = (.int .u32) := by kernel_rfl
theorem lay_111 : lay X.P 111 = (some (false, 1)) := by kernel_rfl
theorem sz_111 : AL.sz? X.P 111 = (some 1) := by kernel_rfl
theorem zc_111 : zC X.P 111 = (some [(.v (.int .u32 (0)))]) := by kernel_rfl
theorem tk_113 : tk X.P 113 = (.int .u64) := by kernel_rfl
theorem lay_113 : lay X.P 113 = (some (false, 1)) := by kernel_rfl
theorem sz_113 : AL.sz? X.P 113 = (some 1) := by kernel_rfl
theorem zc_113 : zC X.P 113 = (some [(.v (.int .u64 (0)))]) := by kernel_rfl
theorem tk_121 : tk X.P 121 = (.int .u64) := by kernel_rfl
theorem lay_121 : lay X.P 121 = (some (false, 1)) := by kernel_rfl
theorem sz_121 : AL.sz? X.P 121 = (some 1) := by kernel_rfl
theorem zc_121 : zC X.P 121 = (some [(.v (.int .u64 (0)))]) := by kernel_rfl
theorem tk_125 : tk X.P 125 = .ptr := by kernel_rfl
theorem lay_125 : lay X.P 125 = (some (false, 1)) := by kernel_rfl
theorem sz_125 : AL.sz? X.P 125 = (some 1) := by kernel_rfl
theorem zc_125 : zC X.P 125 = (some [(.v (.pointer none))]) := by kernel_rfl
theorem us_2 : (X.P.underlying 2).isSome = true := by kernel_rfl
theorem us_3 : (X.P.underlying 3).isSome = true := by kernel_rfl
theorem us_4 : (X.P.underlying 4).isSome = true := by kernel_rfl
theorem us_5 : (X.P.underlying 5).isSome = true := by kernel_rfl
theorem us_9 : (X.P.underlying 9).isSome = true := by kernel_rfl
theorem us_22 : (X.P.underlying 22).isSome = true := by kernel_rfl
theorem us_23 : (X.P.underlying 23).isSome = true := by kernel_rfl
theorem us_25 : (X.P.underlying 25).isSome = true := by kernel_rfl
theorem us_26 : (X.P.underlying 26).isSome = true := by kernel_rfl
theorem us_28 : (X.P.underlying 28).isSome = true := by kernel_rfl
theorem us_33 : (X.P.underlying 33).isSome = true := by kernel_rfl
theorem us_35 : (X.P.underlying 35).isSome = true := by kernel_rfl
theorem us_41 : (X.P.underlying 41).isSome = true := by kernel_rfl
theorem us_45 : (X.P.underlying 45).isSome = true := by kernel_rfl
theorem us_50 : (X.P.underlying 50).isSome = true := by kernel_rfl
theorem us_52 : (X.P.underlying 52).isSome = true := by kernel_rfl
theorem us_61 : (X.P.underlying 61).isSome = true := by kernel_rfl
theorem us_62 : (X.P.underlying 62).isSome = true := by kernel_rfl
theorem us_65 : (X.P.underlying 65).isSome = true := by kernel_rfl
theorem us_67 : (X.P.underlying 67).isSome = true := by kernel_rfl
theorem us_68 : (X.P.underlying 68).isSome = true := by kernel_rfl
theorem us_71 : (X.P.underlying 71).isSome = true := by kernel_rfl
theorem us_77 : (X.P.underlying 77).isSome = true := by kernel_rfl
theorem us_84 : (X.P.underlying 84).isSome = true := by kernel_rfl
theorem us_85 : (X.P.underlying 85).isSome = true := by kernel_rfl
theorem us_94 : (X.P.underlying 94).isSome = true := by kernel_rfl
theorem us_95 : (X.P.underlying 95).isSome = true := by kernel_rfl
theorem us_103 : (X.P.underlying 103).isSome = true := by kernel_rfl
theorem us_111 : (X.P.underlying 111).isSome = true := by kernel_rfl
theorem us_113 : (X.P.underlying 113).isSome = true := by kernel_rfl
theorem us_121 : (X.P.underlying 121).isSome = true := by kernel_rfl
theorem us_125 : (X.P.underlying 125).isSome = true := by kernel_rfl
attribute [go_sem] tk_2 lay_2 sz_2 tk_3 lay_3 sz_3 tk_4 lay_4 sz_4 tk_5 lay_5 sz_5
attribute [go_sem] tk_9 lay_9 sz_9 tk_22 lay_22 sz_22 tk_23 lay_23 sz_23 tk_25 lay_25 sz_25
attribute [go_sem] bt_25 tk_26 lay_26 sz_26 tk_28 lay_28 sz_28 bt_28 tk_33 lay_33 sz_33 tk_35
attribute [go_sem] lay_35 sz_35 bt_35 tk_41 lay_41 sz_41 tk_45 lay_45 sz_45 bt_45 tk_50 lay_50
attribute [go_sem] sz_50 bt_50 tk_52 lay_52 sz_52 bt_52 tk_61 lay_61 sz_61 tk_62 lay_62 sz_62
attribute [go_sem] mp_62 tk_65 lay_65 sz_65 tk_67 lay_67 sz_67 mp_67 tk_68 lay_68 sz_68 mp_68
attribute [go_sem] tk_71 lay_71 sz_71 tk_77 lay_77 sz_77 tk_84 lay_84 sz_84 tk_85 lay_85 sz_85
attribute [go_sem] tk_94 lay_94 sz_94 tk_95 lay_95 sz_95 tk_103 lay_103 sz_103 tk_111 lay_111 sz_111
attribute [go_sem] tk_113 lay_113 sz_113 tk_121 lay_121 sz_121 tk_125 lay_125 sz_125 us_2 us_3 us_4
attribute [go_sem] us_5 us_9 us_22 us_23 us_25 us_26 us_28 us_33 us_35 us_41 us_45 us_50
attribute [go_sem] us_52 us_61 us_62 us_65 us_67 us_68 us_71 us_77 us_84 us_85 us_94 us_95
attribute [go_sem] us_103 us_111 us_113 us_121 us_125

end Go.Proofs.Ytmloandpjbimkaa
