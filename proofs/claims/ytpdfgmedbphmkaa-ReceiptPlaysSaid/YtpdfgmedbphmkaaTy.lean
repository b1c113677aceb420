/-
  The facts of this program's types, in short: each by the kernel's own reckoning. Printed by a program.
-/
import Derived.Test.YtpdfgmedbphmkaaProg
import Derived.Test.YtpdfgmedbphmkaaAL2
import Derived.KernelRfl
namespace Go.Proofs.Ytpdfgmedbphmkaa
open Go Go.AL

noncomputable def X : Ctx := ⟨Try.prog, fun F => ∃ m, F ⟨0, 0, none⟩ (.int .i64 m), fun _ _ h ⟨m, k⟩ => ⟨m, h _ _ k⟩⟩

theorem mixed : X.P.follows .mixedOrders = true := by kernel_rfl
theorem tk_2 : tk X.P 2 = (.int .i64) := by kernel_rfl
theorem lay_2 : lay X.P 2 = (some (false, 1)) := by kernel_rfl
theorem sz_2 : AL.sz? X.P 2 = (some 1) := by kernel_rfl
theorem zc_2 : zC X.P 2 = (some [(.v (.int .i64 (0)))]) := by kernel_rfl
theorem tk_3 : tk X.P 3 = (.int .i64) := by kernel_rfl
theorem lay_3 : lay X.P 3 = (some (false, 1)) := by kernel_rfl
theorem sz_3 : AL.sz? X.P 3 = (some 1) := by kernel_rfl
theorem zc_3 : zC X.P 3 = (some [(.v (.int .i64 (0)))]) := by kernel_rfl
theorem tk_4 : tk X.P 4 = .bool := by kernel_rfl
theorem lay_4 : lay X.P 4 = (some (false, 1)) := by kernel_rfl
theorem sz_4 : AL.sz? X.P 4 = (some 1) := by kernel_rfl
theorem zc_4 : zC X.P 4 = (some [(.v (.bool false))]) := by kernel_rfl
theorem tk_5 : tk X.P 5 = (.int .u8) := by kernel_rfl
theorem lay_5 : lay X.P 5 = (some (false, 1)) := by kernel_rfl
theorem sz_5 : AL.sz? X.P 5 = (some 1) := by kernel_rfl
theorem zc_5 : zC X.P 5 = (some [(.v (.int .u8 (0)))]) := by kernel_rfl
theorem tk_9 : tk X.P 9 = .str := by kernel_rfl
theorem lay_9 : lay X.P 9 = (some (false, 1)) := by kernel_rfl
theorem sz_9 : AL.sz? X.P 9 = (some 1) := by kernel_rfl
theorem zc_9 : zC X.P 9 = (some [(.s [])]) := by kernel_rfl
theorem tk_22 : tk X.P 22 = (.sl 31 (some 3)) := by kernel_rfl
theorem lay_22 : lay X.P 22 = (some (false, 1)) := by kernel_rfl
theorem sz_22 : AL.sz? X.P 22 = (some 1) := by kernel_rfl
theorem zc_22 : zC X.P 22 = (some [(.sl true [])]) := by kernel_rfl
theorem el_22 : elT X.P 22 = (some (31, (3, 32))) := by kernel_rfl
theorem tk_23 : tk X.P 23 = (.arr 2 (some (1, false))) := by kernel_rfl
theorem lay_23 : lay X.P 23 = (some (true, 2)) := by kernel_rfl
theorem sz_23 : AL.sz? X.P 23 = (some 2) := by kernel_rfl
theorem zc_23 : zC X.P 23 = (some [(.s []), (.s [])]) := by kernel_rfl
theorem bt_23 : buildT X.P 23 = (some ([(.s []), (.s [])], [(0, 1), (1, 1)])) := by kernel_rfl
theorem tk_24 : tk X.P 24 = (.sl 9 (some 1)) := by kernel_rfl
theorem lay_24 : lay X.P 24 = (some (false, 1)) := by kernel_rfl
theorem sz_24 : AL.sz? X.P 24 = (some 1) := by kernel_rfl
theorem zc_24 : zC X.P 24 = (some [(.sl true [])]) := by kernel_rfl
theorem el_24 : elT X.P 24 = (some (9, (1, 16))) := by kernel_rfl
theorem tk_27 : tk X.P 27 = .ptr := by kernel_rfl
theorem lay_27 : lay X.P 27 = (some (false, 1)) := by kernel_rfl
theorem sz_27 : AL.sz? X.P 27 = (some 1) := by kernel_rfl
theorem zc_27 : zC X.P 27 = (some [(.v (.pointer none))]) := by kernel_rfl
theorem tk_31 : tk X.P 31 = (.st [(some (0, (1, false))), (some (1, (1, false))), (some (2, (1, false)))]) := by kernel_rfl
theorem lay_31 : lay X.P 31 = (some (true, 3)) := by kernel_rfl
theorem sz_31 : AL.sz? X.P 31 = (some 3) := by kernel_rfl
theorem zc_31 : zC X.P 31 = (some [(.s []), (.v (.int .i64 (0))), (.v (.int .i64 (0)))]) := by kernel_rfl
theorem bt_31 : buildT X.P 31 = (some ([(.s []), (.v (.int .i64 (0))), (.v (.int .i64 (0)))], [(0, 1), (1, 1), (2, 1)])) := by kernel_rfl
theorem tk_38 : tk X.P 38 = (.int .i64) := by kernel_rfl
theorem lay_38 : lay X.P 38 = (some (false, 1)) := by kernel_rfl
theorem sz_38 : AL.sz? X.P 38 = (some 1) := by kernel_rfl
theorem zc_38 : zC X.P 38 = (some [(.v (.int .i64 (0)))]) := by kernel_rfl
theorem tk_43 : tk X.P 43 = .ptr := by kernel_rfl
theorem lay_43 : lay X.P 43 = (some (false, 1)) := by kernel_rfl
theorem sz_43 : AL.sz? X.P 43 = (some 1) := by kernel_rfl
theorem zc_43 : zC X.P 43 = (some [(.v (.pointer none))]) := by kernel_rfl
theorem tk_45 : tk X.P 45 = (.st [(some (0, (1, false)))]) := by kernel_rfl
theorem lay_45 : lay X.P 45 = (some (true, 1)) := by kernel_rfl
theorem sz_45 : AL.sz? X.P 45 = (some 1) := by kernel_rfl
theorem zc_45 : zC X.P 45 = (some [(.sl true [])]) := by kernel_rfl
theorem bt_45 : buildT X.P 45 = (some ([(.sl true [])], [(0, 1)])) := by kernel_rfl
theorem tk_47 : tk X.P 47 = (.sl 49 (some 5)) := by kernel_rfl
theorem lay_47 : lay X.P 47 = (some (false, 1)) := by kernel_rfl
theorem sz_47 : AL.sz? X.P 47 = (some 1) := by kernel_rfl
theorem zc_47 : zC X.P 47 = (some [(.sl true [])]) := by kernel_rfl
theorem el_47 : elT X.P 47 = (some (49, (5, 80))) := by kernel_rfl
theorem tk_49 : tk X.P 49 = (.st [(some (0, (1, false))), (some (1, (1, false))), (some (2, (1, false))), (some (3, (1, false))), (some (4, (1, false)))]) := by kernel_rfl
theorem lay_49 : lay X.P 49 = (some (true, 5)) := by kernel_rfl
theorem sz_49 : AL.sz? X.P 49 = (some 5) := by kernel_rfl
theorem zc_49 : zC X.P 49 = (some [(.v (.int .i64 (0))), (.v (.int .i64 (0))), (.s []), (.sl true []), (.sl true [])]) := by kernel_rfl
theorem bt_49 : buildT X.P 49 = (some ([(.v (.int .i64 (0))), (.v (.int .i64 (0))), (.s []), (.sl true []), (.sl true [])], [(0, 1), (1, 1), (2, 1), (3, 1), (4, 1)])) := by kernel_rfl
theorem tk_54 : tk X.P 54 = (.map 9 31) := by kernel_rfl
theorem lay_54 : lay X.P 54 = (some (false, 1)) := by kernel_rfl
theorem sz_54 : AL.sz? X.P 54 = (some 1) := by kernel_rfl
theorem zc_54 : zC X.P 54 = (some [(.v (.map none))]) := by kernel_rfl
theorem mp_54 : mapT X.P 54 = (some (.str, (some (.agg [(.s []), (.v (.int .i64 (0))), (.v (.int .i64 (0)))])))) := by kernel_rfl
theorem tk_56 : tk X.P 56 = (.st [(some (0, (1, false)))]) := by kernel_rfl
theorem lay_56 : lay X.P 56 = (some (true, 1)) := by kernel_rfl
theorem sz_56 : AL.sz? X.P 56 = (some 1) := by kernel_rfl
theorem zc_56 : zC X.P 56 = (some [(.v (.map none))]) := by kernel_rfl
theorem bt_56 : buildT X.P 56 = (some ([(.v (.map none))], [(0, 1)])) := by kernel_rfl
theorem tk_69 : tk X.P 69 = .func := by kernel_rfl
theorem lay_69 : lay X.P 69 = (some (false, 1)) := by kernel_rfl
theorem sz_69 : AL.sz? X.P 69 = (some 1) := by kernel_rfl
theorem zc_69 : zC X.P 69 = (some [(.v .nilFunc)]) := by kernel_rfl
theorem tk_72 : tk X.P 72 = (.sl 3 (some 1)) := by kernel_rfl
theorem lay_72 : lay X.P 72 = (some (false, 1)) := by kernel_rfl
theorem sz_72 : AL.sz? X.P 72 = (some 1) := by kernel_rfl
theorem zc_72 : zC X.P 72 = (some [(.sl true [])]) := by kernel_rfl
theorem el_72 : elT X.P 72 = (some (3, (1, 8))) := by kernel_rfl
theorem tk_80 : tk X.P 80 = (.int .u64) := by kernel_rfl
theorem lay_80 : lay X.P 80 = (some (false, 1)) := by kernel_rfl
theorem sz_80 : AL.sz? X.P 80 = (some 1) := by kernel_rfl
theorem zc_80 : zC X.P 80 = (some [(.v (.int .u64 (0)))]) := by kernel_rfl
theorem tk_82 : tk X.P 82 = .func := by kernel_rfl
theorem lay_82 : lay X.P 82 = (some (false, 1)) := by kernel_rfl
theorem sz_82 : AL.sz? X.P 82 = (some 1) := by kernel_rfl
theorem zc_82 : zC X.P 82 = (some [(.v .nilFunc)]) := by kernel_rfl
theorem tk_85 : tk X.P 85 = (.int .i64) := by kernel_rfl
theorem lay_85 : lay X.P 85 = (some (false, 1)) := by kernel_rfl
theorem sz_85 : AL.sz? X.P 85 = (some 1) := by kernel_rfl
theorem zc_85 : zC X.P 85 = (some [(.v (.int .i64 (0)))]) := by kernel_rfl
theorem tk_94 : tk X.P 94 = (.int .u32) := by kernel_rfl
theorem lay_94 : lay X.P 94 = (some (false, 1)) := by kernel_rfl
theorem sz_94 : AL.sz? X.P 94 = (some 1) := by kernel_rfl
theorem zc_94 : zC X.P 94 = (some [(.v (.int .u32 (0)))]) := by kernel_rfl
theorem tk_96 : tk X.P 96 = (.int .u64) := by kernel_rfl
theorem lay_96 : lay X.P 96 = (some (false, 1)) := by kernel_rfl
theorem sz_96 : AL.sz? X.P 96 = (some 1) := by kernel_rfl
theorem zc_96 : zC X.P 96 = (some [(.v (.int .u64 (0)))]) := by kernel_rfl
theorem tk_98 : tk X.P 98 = (.int .u64) := by kernel_rfl
theorem lay_98 : lay X.P 98 = (some (false, 1)) := by kernel_rfl
theorem sz_98 : AL.sz? X.P 98 = (some 1) := by kernel_rfl
theorem zc_98 : zC X.P 98 = (some [(.v (.int .u64 (0)))]) := by kernel_rfl
theorem tk_102 : tk X.P 102 = .ptr := by kernel_rfl
theorem lay_102 : lay X.P 102 = (some (false, 1)) := by kernel_rfl
theorem sz_102 : AL.sz? X.P 102 = (some 1) := by kernel_rfl
theorem zc_102 : zC X.P 102 = (some [(.v (.pointer none))]) := by kernel_rfl
theorem us_2 : (X.P.underlying 2).isSome = true := by kernel_rfl
theorem us_3 : (X.P.underlying 3).isSome = true := by kernel_rfl
theorem us_4 : (X.P.underlying 4).isSome = true := by kernel_rfl
theorem us_5 : (X.P.underlying 5).isSome = true := by kernel_rfl
theorem us_9 : (X.P.underlying 9).isSome = true := by kernel_rfl
theorem us_22 : (X.P.underlying 22).isSome = true := by kernel_rfl
theorem us_23 : (X.P.underlying 23).isSome = true := by kernel_rfl
theorem us_24 : (X.P.underlying 24).isSome = true := by kernel_rfl
theorem us_27 : (X.P.underlying 27).isSome = true := by kernel_rfl
theorem us_31 : (X.P.underlying 31).isSome = true := by kernel_rfl
theorem us_38 : (X.P.underlying 38).isSome = true := by kernel_rfl
theorem us_43 : (X.P.underlying 43).isSome = true := by kernel_rfl
theorem us_45 : (X.P.underlying 45).isSome = true := by kernel_rfl
theorem us_47 : (X.P.underlying 47).isSome = true := by kernel_rfl
theorem us_49 : (X.P.underlying 49).isSome = true := by kernel_rfl
theorem us_54 : (X.P.underlying 54).isSome = true := by kernel_rfl
theorem us_56 : (X.P.underlying 56).isSome = true := by kernel_rfl
theorem us_69 : (X.P.underlying 69).isSome = true := by kernel_rfl
theorem us_72 : (X.P.underlying 72).isSome = true := by kernel_rfl
theorem us_80 : (X.P.underlying 80).isSome = true := by kernel_rfl
theorem us_82 : (X.P.underlying 82).isSome = true := by kernel_rfl
theorem us_85 : (X.P.underlying 85).isSome = true := by kernel_rfl
theorem us_94 : (X.P.underlying 94).isSome = true := by kernel_rfl
theorem us_96 : (X.P.underlying 96).isSome = true := by kernel_rfl
theorem us_98 : (X.P.underlying 98).isSome = true := by kernel_rfl
theorem us_102 : (X.P.underlying 102).isSome = true := by kernel_rfl
attribute [go_sem] tk_2 lay_2 sz_2 tk_3 lay_3 sz_3 tk_4 lay_4 sz_4 tk_5 lay_5 sz_5
attribute [go_sem] tk_9 lay_9 sz_9 tk_22 lay_22 sz_22 tk_23 lay_23 sz_23 bt_23 tk_24 lay_24
attribute [go_sem] sz_24 tk_27 lay_27 sz_27 tk_31 lay_31 sz_31 bt_31 tk_38 lay_38 sz_38 tk_43
attribute [go_sem] lay_43 sz_43 tk_45 lay_45 sz_45 bt_45 tk_47 lay_47 sz_47 tk_49 lay_49 sz_49
attribute [go_sem] bt_49 tk_54 lay_54 sz_54 mp_54 tk_56 lay_56 sz_56 bt_56 tk_69 lay_69 sz_69
attribute [go_sem] tk_72 lay_72 sz_72 tk_80 lay_80 sz_80 tk_82 lay_82 sz_82 tk_85 lay_85 sz_85
attribute [go_sem] tk_94 lay_94 sz_94 tk_96 lay_96 sz_96 tk_98 lay_98 sz_98 tk_102 lay_102 sz_102
attribute [go_sem] us_2 us_3 us_4 us_5 us_9 us_22 us_23 us_24 us_27 us_31 us_38 us_43
attribute [go_sem] us_45 us_47 us_49 us_54 us_56 us_69 us_72 us_80 us_82 us_85 us_94 us_96
attribute [go_sem] us_98 us_102

end Go.Proofs.Ytpdfgmedbphmkaa
