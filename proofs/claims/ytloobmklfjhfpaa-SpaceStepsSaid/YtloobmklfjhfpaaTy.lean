/-
  The facts of this program's types, in short: each by the kernel's own reckoning. Printed by a program.
-/
import Derived.Test.YtloobmklfjhfpaaProg
import Derived.Test.YtloobmklfjhfpaaAL2
import Derived.KernelRfl
namespace Go.Proofs.Ytloobmklfjhfpaa
open Go Go.AL

noncomputable def X : Ctx := ⟨Try.prog, fun _ => True, fun _ _ _ _ => trivial⟩

theorem mixed : X.P.follows .mixedOrders = true := by kernel_rfl
theorem tk_3 : tk X.P 3 = (.int .i64) := by kernel_rfl
theorem lay_3 : lay X.P 3 = (some (false, 1)) := by kernel_rfl
theorem sz_3 : AL.sz? X.P 3 = (some 1) := by kernel_rfl
theorem zc_3 : zC X.P 3 = (some [(.v (.int .i64 (0)))]) := by kernel_rfl
theorem tk_4 : tk X.P 4 = .bool := by kernel_rfl
theorem lay_4 : lay X.P 4 = (some (false, 1)) := by kernel_rfl
theorem sz_4 : AL.sz? X.P 4 = (some 1) := by kernel_rfl
theorem zc_4 : zC X.P 4 = (some [(.v (.bool false))]) := by kernel_rfl
theorem tk_5 : tk X.P 5 = (.int .u8) := by kernel_rfl
theorem lay_5 : lay X.P 5 = (some (false, 1)) := by kernel_rfl
theorem sz_5 : AL.sz? X.P 5 = (some 1) := by kernel_rfl
theorem zc_5 : zC X.P 5 = (some [(.v (.int .u8 (0)))]) := by kernel_rfl
theorem tk_9 : tk X.P 9 = .str := by kernel_rfl
theorem lay_9 : lay X.P 9 = (some (false, 1)) := by kernel_rfl
theorem sz_9 : AL.sz? X.P 9 = (some 1) := by kernel_rfl
theorem zc_9 : zC X.P 9 = (some [(.s [])]) := by kernel_rfl
theorem tk_21 : tk X.P 21 = (.int .i32) := by kernel_rfl
theorem lay_21 : lay X.P 21 = (some (false, 1)) := by kernel_rfl
theorem sz_21 : AL.sz? X.P 21 = (some 1) := by kernel_rfl
theorem zc_21 : zC X.P 21 = (some [(.v (.int .i32 (0)))]) := by kernel_rfl
theorem tk_22 : tk X.P 22 = (.sl 42 (some 2)) := by kernel_rfl
theorem lay_22 : lay X.P 22 = (some (false, 1)) := by kernel_rfl
theorem sz_22 : AL.sz? X.P 22 = (some 1) := by kernel_rfl
theorem zc_22 : zC X.P 22 = (some [(.sl true [])]) := by kernel_rfl
theorem el_22 : elT X.P 22 = (some (42, (2, 32))) := by kernel_rfl
theorem tk_28 : tk X.P 28 = (.sl 48 (some 2)) := by kernel_rfl
theorem lay_28 : lay X.P 28 = (some (false, 1)) := by kernel_rfl
theorem sz_28 : AL.sz? X.P 28 = (some 1) := by kernel_rfl
theorem zc_28 : zC X.P 28 = (some [(.sl true [])]) := by kernel_rfl
theorem el_28 : elT X.P 28 = (some (48, (2, 40))) := by kernel_rfl
theorem tk_29 : tk X.P 29 = (.arr 2 (some (1, false))) := by kernel_rfl
theorem lay_29 : lay X.P 29 = (some (true, 2)) := by kernel_rfl
theorem sz_29 : AL.sz? X.P 29 = (some 2) := by kernel_rfl
theorem zc_29 : zC X.P 29 = (some [(.v (.int .i64 (0))), (.v (.int .i64 (0)))]) := by kernel_rfl
theorem bt_29 : buildT X.P 29 = (some ([(.v (.int .i64 (0))), (.v (.int .i64 (0)))], [(0, 1), (1, 1)])) := by kernel_rfl
theorem tk_31 : tk X.P 31 = (.sl 35 (some 3)) := by kernel_rfl
theorem lay_31 : lay X.P 31 = (some (false, 1)) := by kernel_rfl
theorem sz_31 : AL.sz? X.P 31 = (some 1) := by kernel_rfl
theorem zc_31 : zC X.P 31 = (some [(.sl true [])]) := by kernel_rfl
theorem el_31 : elT X.P 31 = (some (35, (3, 40))) := by kernel_rfl
theorem tk_35 : tk X.P 35 = (.st [(some (0, (1, false))), (some (1, (1, false))), (some (2, (1, false)))]) := by kernel_rfl
theorem lay_35 : lay X.P 35 = (some (true, 3)) := by kernel_rfl
theorem sz_35 : AL.sz? X.P 35 = (some 3) := by kernel_rfl
theorem zc_35 : zC X.P 35 = (some [(.s []), (.s []), (.v (.int .i64 (0)))]) := by kernel_rfl
theorem bt_35 : buildT X.P 35 = (some ([(.s []), (.s []), (.v (.int .i64 (0)))], [(0, 1), (1, 1), (2, 1)])) := by kernel_rfl
theorem tk_37 : tk X.P 37 = (.sl 9 (some 1)) := by kernel_rfl
theorem lay_37 : lay X.P 37 = (some (false, 1)) := by kernel_rfl
theorem sz_37 : AL.sz? X.P 37 = (some 1) := by kernel_rfl
theorem zc_37 : zC X.P 37 = (some [(.sl true [])]) := by kernel_rfl
theorem el_37 : elT X.P 37 = (some (9, (1, 16))) := by kernel_rfl
theorem tk_42 : tk X.P 42 = (.st [(some (0, (1, false))), (some (1, (1, false)))]) := by kernel_rfl
theorem lay_42 : lay X.P 42 = (some (true, 2)) := by kernel_rfl
theorem sz_42 : AL.sz? X.P 42 = (some 2) := by kernel_rfl
theorem zc_42 : zC X.P 42 = (some [(.s []), (.s [])]) := by kernel_rfl
theorem bt_42 : buildT X.P 42 = (some ([(.s []), (.s [])], [(0, 1), (1, 1)])) := by kernel_rfl
theorem tk_43 : tk X.P 43 = (.map 9 4) := by kernel_rfl
theorem lay_43 : lay X.P 43 = (some (false, 1)) := by kernel_rfl
theorem sz_43 : AL.sz? X.P 43 = (some 1) := by kernel_rfl
theorem zc_43 : zC X.P 43 = (some [(.v (.map none))]) := by kernel_rfl
theorem mp_43 : mapT X.P 43 = (some (.str, (some (.v (.bool false))))) := by kernel_rfl
theorem tk_45 : tk X.P 45 = .func := by kernel_rfl
theorem lay_45 : lay X.P 45 = (some (false, 1)) := by kernel_rfl
theorem sz_45 : AL.sz? X.P 45 = (some 1) := by kernel_rfl
theorem zc_45 : zC X.P 45 = (some [(.v .nilFunc)]) := by kernel_rfl
theorem tk_48 : tk X.P 48 = (.st [(some (0, (1, false))), (some (1, (1, false)))]) := by kernel_rfl
theorem lay_48 : lay X.P 48 = (some (true, 2)) := by kernel_rfl
theorem sz_48 : AL.sz? X.P 48 = (some 2) := by kernel_rfl
theorem zc_48 : zC X.P 48 = (some [(.s []), (.sl true [])]) := by kernel_rfl
theorem bt_48 : buildT X.P 48 = (some ([(.s []), (.sl true [])], [(0, 1), (1, 1)])) := by kernel_rfl
theorem tk_50 : tk X.P 50 = (.map 9 22) := by kernel_rfl
theorem lay_50 : lay X.P 50 = (some (false, 1)) := by kernel_rfl
theorem sz_50 : AL.sz? X.P 50 = (some 1) := by kernel_rfl
theorem zc_50 : zC X.P 50 = (some [(.v (.map none))]) := by kernel_rfl
theorem mp_50 : mapT X.P 50 = (some (.str, (some (.sl true [])))) := by kernel_rfl
theorem tk_56 : tk X.P 56 = .func := by kernel_rfl
theorem lay_56 : lay X.P 56 = (some (false, 1)) := by kernel_rfl
theorem sz_56 : AL.sz? X.P 56 = (some 1) := by kernel_rfl
theorem zc_56 : zC X.P 56 = (some [(.v .nilFunc)]) := by kernel_rfl
theorem tk_60 : tk X.P 60 = (.int .u64) := by kernel_rfl
theorem lay_60 : lay X.P 60 = (some (false, 1)) := by kernel_rfl
theorem sz_60 : AL.sz? X.P 60 = (some 1) := by kernel_rfl
theorem zc_60 : zC X.P 60 = (some [(.v (.int .u64 (0)))]) := by kernel_rfl
theorem tk_73 : tk X.P 73 = (.int .i64) := by kernel_rfl
theorem lay_73 : lay X.P 73 = (some (false, 1)) := by kernel_rfl
theorem sz_73 : AL.sz? X.P 73 = (some 1) := by kernel_rfl
theorem zc_73 : zC X.P 73 = (some [(.v (.int .i64 (0)))]) := by kernel_rfl
theorem tk_81 : tk X.P 81 = (.int .u32) := by kernel_rfl
theorem lay_81 : lay X.P 81 = (some (false, 1)) := by kernel_rfl
theorem sz_81 : AL.sz? X.P 81 = (some 1) := by kernel_rfl
theorem zc_81 : zC X.P 81 = (some [(.v (.int .u32 (0)))]) := by kernel_rfl
theorem tk_83 : tk X.P 83 = (.int .u64) := by kernel_rfl
theorem lay_83 : lay X.P 83 = (some (false, 1)) := by kernel_rfl
theorem sz_83 : AL.sz? X.P 83 = (some 1) := by kernel_rfl
theorem zc_83 : zC X.P 83 = (some [(.v (.int .u64 (0)))]) := by kernel_rfl
theorem tk_85 : tk X.P 85 = (.sl 3 (some 1)) := by kernel_rfl
theorem lay_85 : lay X.P 85 = (some (false, 1)) := by kernel_rfl
theorem sz_85 : AL.sz? X.P 85 = (some 1) := by kernel_rfl
theorem zc_85 : zC X.P 85 = (some [(.sl true [])]) := by kernel_rfl
theorem el_85 : elT X.P 85 = (some (3, (1, 8))) := by kernel_rfl
theorem tk_93 : tk X.P 93 = (.int .u64) := by kernel_rfl
theorem lay_93 : lay X.P 93 = (some (false, 1)) := by kernel_rfl
theorem sz_93 : AL.sz? X.P 93 = (some 1) := by kernel_rfl
theorem zc_93 : zC X.P 93 = (some [(.v (.int .u64 (0)))]) := by kernel_rfl
theorem tk_97 : tk X.P 97 = .ptr := by kernel_rfl
theorem lay_97 : lay X.P 97 = (some (false, 1)) := by kernel_rfl
theorem sz_97 : AL.sz? X.P 97 = (some 1) := by kernel_rfl
theorem zc_97 : zC X.P 97 = (some [(.v (.pointer none))]) := by kernel_rfl
theorem tk_99 : tk X.P 99 = .func := by kernel_rfl
theorem lay_99 : lay X.P 99 = (some (false, 1)) := by kernel_rfl
theorem sz_99 : AL.sz? X.P 99 = (some 1) := by kernel_rfl
theorem zc_99 : zC X.P 99 = (some [(.v .nilFunc)]) := by kernel_rfl
theorem us_3 : (X.P.underlying 3).isSome = true := by kernel_rfl
theorem us_4 : (X.P.underlying 4).isSome = true := by kernel_rfl
theorem us_5 : (X.P.underlying 5).isSome = true := by kernel_rfl
theorem us_9 : (X.P.underlying 9).isSome = true := by kernel_rfl
theorem us_21 : (X.P.underlying 21).isSome = true := by kernel_rfl
theorem us_22 : (X.P.underlying 22).isSome = true := by kernel_rfl
theorem us_28 : (X.P.underlying 28).isSome = true := by kernel_rfl
theorem us_29 : (X.P.underlying 29).isSome = true := by kernel_rfl
theorem us_31 : (X.P.underlying 31).isSome = true := by kernel_rfl
theorem us_35 : (X.P.underlying 35).isSome = true := by kernel_rfl
theorem us_37 : (X.P.underlying 37).isSome = true := by kernel_rfl
theorem us_42 : (X.P.underlying 42).isSome = true := by kernel_rfl
theorem us_43 : (X.P.underlying 43).isSome = true := by kernel_rfl
theorem us_45 : (X.P.underlying 45).isSome = true := by kernel_rfl
theorem us_48 : (X.P.underlying 48).isSome = true := by kernel_rfl
theorem us_50 : (X.P.underlying 50).isSome = true := by kernel_rfl
theorem us_56 : (X.P.underlying 56).isSome = true := by kernel_rfl
theorem us_60 : (X.P.underlying 60).isSome = true := by kernel_rfl
theorem us_73 : (X.P.underlying 73).isSome = true := by kernel_rfl
theorem us_81 : (X.P.underlying 81).isSome = true := by kernel_rfl
theorem us_83 : (X.P.underlying 83).isSome = true := by kernel_rfl
theorem us_85 : (X.P.underlying 85).isSome = true := by kernel_rfl
theorem us_93 : (X.P.underlying 93).isSome = true := by kernel_rfl
theorem us_97 : (X.P.underlying 97).isSome = true := by kernel_rfl
theorem us_99 : (X.P.underlying 99).isSome = true := by kernel_rfl
attribute [go_sem] tk_3 lay_3 sz_3 tk_4 lay_4 sz_4 tk_5 lay_5 sz_5 tk_9 lay_9 sz_9
attribute [go_sem] tk_21 lay_21 sz_21 tk_22 lay_22 sz_22 tk_28 lay_28 sz_28 tk_29 lay_29 sz_29
attribute [go_sem] bt_29 tk_31 lay_31 sz_31 tk_35 lay_35 sz_35 bt_35 tk_37 lay_37 sz_37 tk_42
attribute [go_sem] lay_42 sz_42 bt_42 tk_43 lay_43 sz_43 mp_43 tk_45 lay_45 sz_45 tk_48 lay_48
attribute [go_sem] sz_48 bt_48 tk_50 lay_50 sz_50 mp_50 tk_56 lay_56 sz_56 tk_60 lay_60 sz_60
attribute [go_sem] tk_73 lay_73 sz_73 tk_81 lay_81 sz_81 tk_83 lay_83 sz_83 tk_85 lay_85 sz_85
attribute [go_sem] tk_93 lay_93 sz_93 tk_97 lay_97 sz_97 tk_99 lay_99 sz_99 us_3 us_4 us_5
attribute [go_sem] us_9 us_21 us_22 us_28 us_29 us_31 us_35 us_37 us_42 us_43 us_45 us_48
attribute [go_sem] us_50 us_56 us_60 us_73 us_81 us_83 us_85 us_93 us_97 us_99

end Go.Proofs.Ytloobmklfjhfpaa
