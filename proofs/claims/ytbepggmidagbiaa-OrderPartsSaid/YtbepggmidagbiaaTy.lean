/-
  The facts of this program's types, in short: each by the kernel's own reckoning. Printed by a program.
-/
import Derived.Test.YtbepggmidagbiaaProg
import Derived.Test.YtbepggmidagbiaaAL2
import Derived.KernelRfl
namespace Go.Proofs.Ytbepggmidagbiaa
open Go Go.AL

noncomputable def X : Ctx := ⟨Try.prog, fun _ => True, fun _ _ _ h => h⟩

theorem mixed : X.P.follows .mixedOrders = true := by kernel_rfl
theorem tk_2 : tk X.P 2 = (.int .i64) := by kernel_rfl
theorem lay_2 : lay X.P 2 = (some (false, 1)) := by kernel_rfl
theorem sz_2 : AL.sz? X.P 2 = (some 1) := by kernel_rfl
theorem zc_2 : zC X.P 2 = (some [(.v (.int .i64 (0)))]) := by kernel_rfl
theorem tk_3 : tk X.P 3 = (.int .i64) := by kernel_rfl
theorem lay_3 : lay X.P 3 = (some (false, 1)) := by kernel_rfl
theorem sz_3 : AL.sz? X.P 3 = (some 1) := by kernel_rfl
theorem zc_3 : zC X.P 3 = (some [(.v (.int .i64 (0)))]) := by kernel_rfl
theorem tk_4 : tk X.P 4 = .bool := by kernel_rfl
theorem lay_4 : lay X.P 4 = (some (false, 1)) := by kernel_rfl
theorem sz_4 : AL.sz? X.P 4 = (some 1) := by kernel_rfl
theorem zc_4 : zC X.P 4 = (some [(.v (.bool false))]) := by kernel_rfl
theorem tk_5 : tk X.P 5 = (.int .u8) := by kernel_rfl
theorem lay_5 : lay X.P 5 = (some (false, 1)) := by kernel_rfl
theorem sz_5 : AL.sz? X.P 5 = (some 1) := by kernel_rfl
theorem zc_5 : zC X.P 5 = (some [(.v (.int .u8 (0)))]) := by kernel_rfl
theorem tk_9 : tk X.P 9 = .str := by kernel_rfl
theorem lay_9 : lay X.P 9 = (some (false, 1)) := by kernel_rfl
theorem sz_9 : AL.sz? X.P 9 = (some 1) := by kernel_rfl
theorem zc_9 : zC X.P 9 = (some [(.s [])]) := by kernel_rfl
theorem tk_22 : tk X.P 22 = (.sl 25 (some 1)) := by kernel_rfl
theorem lay_22 : lay X.P 22 = (some (false, 1)) := by kernel_rfl
theorem sz_22 : AL.sz? X.P 22 = (some 1) := by kernel_rfl
theorem zc_22 : zC X.P 22 = (some [(.sl true [])]) := by kernel_rfl
theorem el_22 : elT X.P 22 = (some (25, (1, 24))) := by kernel_rfl
theorem tk_23 : tk X.P 23 = (.sl 2 (some 1)) := by kernel_rfl
theorem lay_23 : lay X.P 23 = (some (false, 1)) := by kernel_rfl
theorem sz_23 : AL.sz? X.P 23 = (some 1) := by kernel_rfl
theorem zc_23 : zC X.P 23 = (some [(.sl true [])]) := by kernel_rfl
theorem el_23 : elT X.P 23 = (some (2, (1, 8))) := by kernel_rfl
theorem tk_25 : tk X.P 25 = (.sl 3 (some 1)) := by kernel_rfl
theorem lay_25 : lay X.P 25 = (some (false, 1)) := by kernel_rfl
theorem sz_25 : AL.sz? X.P 25 = (some 1) := by kernel_rfl
theorem zc_25 : zC X.P 25 = (some [(.sl true [])]) := by kernel_rfl
theorem el_25 : elT X.P 25 = (some (3, (1, 8))) := by kernel_rfl
theorem tk_26 : tk X.P 26 = (.int .i64) := by kernel_rfl
theorem lay_26 : lay X.P 26 = (some (false, 1)) := by kernel_rfl
theorem sz_26 : AL.sz? X.P 26 = (some 1) := by kernel_rfl
theorem zc_26 : zC X.P 26 = (some [(.v (.int .i64 (0)))]) := by kernel_rfl
theorem tk_35 : tk X.P 35 = (.map 3 4) := by kernel_rfl
theorem lay_35 : lay X.P 35 = (some (false, 1)) := by kernel_rfl
theorem sz_35 : AL.sz? X.P 35 = (some 1) := by kernel_rfl
theorem zc_35 : zC X.P 35 = (some [(.v (.map none))]) := by kernel_rfl
theorem mp_35 : mapT X.P 35 = (some ((.int .i64), (some (.v (.bool false))))) := by kernel_rfl
theorem tk_38 : tk X.P 38 = .func := by kernel_rfl
theorem lay_38 : lay X.P 38 = (some (false, 1)) := by kernel_rfl
theorem sz_38 : AL.sz? X.P 38 = (some 1) := by kernel_rfl
theorem zc_38 : zC X.P 38 = (some [(.v .nilFunc)]) := by kernel_rfl
theorem tk_45 : tk X.P 45 = .func := by kernel_rfl
theorem lay_45 : lay X.P 45 = (some (false, 1)) := by kernel_rfl
theorem sz_45 : AL.sz? X.P 45 = (some 1) := by kernel_rfl
theorem zc_45 : zC X.P 45 = (some [(.v .nilFunc)]) := by kernel_rfl
theorem tk_51 : tk X.P 51 = (.int .u64) := by kernel_rfl
theorem lay_51 : lay X.P 51 = (some (false, 1)) := by kernel_rfl
theorem sz_51 : AL.sz? X.P 51 = (some 1) := by kernel_rfl
theorem zc_51 : zC X.P 51 = (some [(.v (.int .u64 (0)))]) := by kernel_rfl
theorem tk_53 : tk X.P 53 = (.map 3 3) := by kernel_rfl
theorem lay_53 : lay X.P 53 = (some (false, 1)) := by kernel_rfl
theorem sz_53 : AL.sz? X.P 53 = (some 1) := by kernel_rfl
theorem zc_53 : zC X.P 53 = (some [(.v (.map none))]) := by kernel_rfl
theorem mp_53 : mapT X.P 53 = (some ((.int .i64), (some (.v (.int .i64 (0)))))) := by kernel_rfl
theorem tk_58 : tk X.P 58 = (.int .i64) := by kernel_rfl
theorem lay_58 : lay X.P 58 = (some (false, 1)) := by kernel_rfl
theorem sz_58 : AL.sz? X.P 58 = (some 1) := by kernel_rfl
theorem zc_58 : zC X.P 58 = (some [(.v (.int .i64 (0)))]) := by kernel_rfl
theorem tk_65 : tk X.P 65 = (.int .u32) := by kernel_rfl
theorem lay_65 : lay X.P 65 = (some (false, 1)) := by kernel_rfl
theorem sz_65 : AL.sz? X.P 65 = (some 1) := by kernel_rfl
theorem zc_65 : zC X.P 65 = (some [(.v (.int .u32 (0)))]) := by kernel_rfl
theorem tk_67 : tk X.P 67 = (.int .u64) := by kernel_rfl
theorem lay_67 : lay X.P 67 = (some (false, 1)) := by kernel_rfl
theorem sz_67 : AL.sz? X.P 67 = (some 1) := by kernel_rfl
theorem zc_67 : zC X.P 67 = (some [(.v (.int .u64 (0)))]) := by kernel_rfl
theorem tk_70 : tk X.P 70 = .func := by kernel_rfl
theorem lay_70 : lay X.P 70 = (some (false, 1)) := by kernel_rfl
theorem sz_70 : AL.sz? X.P 70 = (some 1) := by kernel_rfl
theorem zc_70 : zC X.P 70 = (some [(.v .nilFunc)]) := by kernel_rfl
theorem tk_74 : tk X.P 74 = (.int .u64) := by kernel_rfl
theorem lay_74 : lay X.P 74 = (some (false, 1)) := by kernel_rfl
theorem sz_74 : AL.sz? X.P 74 = (some 1) := by kernel_rfl
theorem zc_74 : zC X.P 74 = (some [(.v (.int .u64 (0)))]) := by kernel_rfl
theorem tk_78 : tk X.P 78 = .ptr := by kernel_rfl
theorem lay_78 : lay X.P 78 = (some (false, 1)) := by kernel_rfl
theorem sz_78 : AL.sz? X.P 78 = (some 1) := by kernel_rfl
theorem zc_78 : zC X.P 78 = (some [(.v (.pointer none))]) := by kernel_rfl
theorem us_2 : (X.P.underlying 2).isSome = true := by kernel_rfl
theorem us_3 : (X.P.underlying 3).isSome = true := by kernel_rfl
theorem us_4 : (X.P.underlying 4).isSome = true := by kernel_rfl
theorem us_5 : (X.P.underlying 5).isSome = true := by kernel_rfl
theorem us_9 : (X.P.underlying 9).isSome = true := by kernel_rfl
theorem us_22 : (X.P.underlying 22).isSome = true := by kernel_rfl
theorem us_23 : (X.P.underlying 23).isSome = true := by kernel_rfl
theorem us_25 : (X.P.underlying 25).isSome = true := by kernel_rfl
theorem us_26 : (X.P.underlying 26).isSome = true := by kernel_rfl
theorem us_35 : (X.P.underlying 35).isSome = true := by kernel_rfl
theorem us_38 : (X.P.underlying 38).isSome = true := by kernel_rfl
theorem us_45 : (X.P.underlying 45).isSome = true := by kernel_rfl
theorem us_51 : (X.P.underlying 51).isSome = true := by kernel_rfl
theorem us_53 : (X.P.underlying 53).isSome = true := by kernel_rfl
theorem us_58 : (X.P.underlying 58).isSome = true := by kernel_rfl
theorem us_65 : (X.P.underlying 65).isSome = true := by kernel_rfl
theorem us_67 : (X.P.underlying 67).isSome = true := by kernel_rfl
theorem us_70 : (X.P.underlying 70).isSome = true := by kernel_rfl
theorem us_74 : (X.P.underlying 74).isSome = true := by kernel_rfl
theorem us_78 : (X.P.underlying 78).isSome = true := by kernel_rfl
attribute [go_sem] tk_2 lay_2 sz_2 tk_3 lay_3 sz_3 tk_4 lay_4 sz_4 tk_5 lay_5 sz_5
attribute [go_sem] tk_9 lay_9 sz_9 tk_22 lay_22 sz_22 tk_23 lay_23 sz_23 tk_25 lay_25 sz_25
attribute [go_sem] tk_26 lay_26 sz_26 tk_35 lay_35 sz_35 mp_35 tk_38 lay_38 sz_38 tk_45 lay_45
attribute [go_sem] sz_45 tk_51 lay_51 sz_51 tk_53 lay_53 sz_53 mp_53 tk_58 lay_58 sz_58 tk_65
attribute [go_sem] lay_65 sz_65 tk_67 lay_67 sz_67 tk_70 lay_70 sz_70 tk_74 lay_74 sz_74 tk_78
attribute [go_sem] lay_78 sz_78 us_2 us_3 us_4 us_5 us_9 us_22 us_23 us_25 us_26 us_35
attribute [go_sem] us_38 us_45 us_51 us_53 us_58 us_65 us_67 us_70 us_74 us_78

end Go.Proofs.Ytbepggmidagbiaa
