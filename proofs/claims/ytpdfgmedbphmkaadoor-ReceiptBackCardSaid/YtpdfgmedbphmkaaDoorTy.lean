/-
  The facts of this program's types, in short: each by the kernel's own reckoning. Printed by a program.
-/
import Derived.Test.YtpdfgmedbphmkaaDoorProg
import Derived.Test.YtpdfgmedbphmkaaDoorAL2
import Derived.Lib.ValidLaws
import Derived.KernelRfl
namespace Go.Proofs.YtpdfgmedbphmkaaDoor
open Go Go.AL

/-- the package-level variables that the library reads: strings.Index's bound, and utf8's two tables -/
noncomputable def X : Ctx := ⟨Tryd.prog, fun F => (∃ m, F ⟨2, 0, none⟩ (.int .i64 m)) ∧ (∀ c, c < 256 → F ⟨0, c, none⟩ (.int .u8 (Lib.firstT c))) ∧ (∀ i, i < 16 → F ⟨1, 2 * i, none⟩ (.int .u8 (Lib.accLo i)) ∧ F ⟨1, 2 * i + 1, none⟩ (.int .u8 (Lib.accHi i))),
  fun _ _ h ⟨⟨m, k⟩, k1, k2⟩ => ⟨⟨m, h _ _ k⟩, fun c hc => h _ _ (k1 c hc), fun i hi => ⟨h _ _ (k2 i hi).1, h _ _ (k2 i hi).2⟩⟩, False⟩


theorem mixed : X.P.follows .mixedOrders = true := by kernel_rfl
theorem tk_2 : tk X.P 2 = (.int .i64) := by kernel_rfl
theorem lay_2 : lay X.P 2 = (some (false, 1)) := by kernel_rfl
theorem sz_2 : AL.sz? X.P 2 = (some 1) := by kernel_rfl
theorem zc_2 : zC X.P 2 = (some [(.v (.int .i64 (0)))]) := by kernel_rfl
theorem tk_3 : tk X.P 3 = (.int .i64) := by kernel_rfl
theorem lay_3 : lay X.P 3 = (some (false, 1)) := by kernel_rfl
theorem sz_3 : AL.sz? X.P 3 = (some 1) := by kernel_rfl
theorem zc_3 : zC X.P 3 = (some [(.v (.int .i64 (0)))]) := by kernel_rfl
theorem tk_4 : tk X.P 4 = .bool := by kernel_rfl
theorem lay_4 : lay X.P 4 = (some (false, 1)) := by kernel_rfl
theorem sz_4 : AL.sz? X.P 4 = (some 1) := by kernel_rfl
theorem zc_4 : zC X.P 4 = (some [(.v (.bool false))]) := by kernel_rfl
theorem tk_5 : tk X.P 5 = (.int .u8) := by kernel_rfl
theorem lay_5 : lay X.P 5 = (some (false, 1)) := by kernel_rfl
theorem sz_5 : AL.sz? X.P 5 = (some 1) := by kernel_rfl
theorem zc_5 : zC X.P 5 = (some [(.v (.int .u8 (0)))]) := by kernel_rfl
theorem tk_9 : tk X.P 9 = .str := by kernel_rfl
theorem lay_9 : lay X.P 9 = (some (false, 1)) := by kernel_rfl
theorem sz_9 : AL.sz? X.P 9 = (some 1) := by kernel_rfl
theorem zc_9 : zC X.P 9 = (some [(.s [])]) := by kernel_rfl
theorem tk_12 : tk X.P 12 = (.int .u64) := by kernel_rfl
theorem lay_12 : lay X.P 12 = (some (false, 1)) := by kernel_rfl
theorem sz_12 : AL.sz? X.P 12 = (some 1) := by kernel_rfl
theorem zc_12 : zC X.P 12 = (some [(.v (.int .u64 (0)))]) := by kernel_rfl
theorem tk_22 : tk X.P 22 = (.sl 24 (some 3)) := by kernel_rfl
theorem lay_22 : lay X.P 22 = (some (false, 1)) := by kernel_rfl
theorem sz_22 : AL.sz? X.P 22 = (some 1) := by kernel_rfl
theorem zc_22 : zC X.P 22 = (some [(.sl true [])]) := by kernel_rfl
theorem el_22 : elT X.P 22 = (some (24, (3, 32))) := by kernel_rfl
theorem tk_24 : tk X.P 24 = (.st [(some (0, (1, false))), (some (1, (1, false))), (some (2, (1, false)))]) := by kernel_rfl
theorem lay_24 : lay X.P 24 = (some (true, 3)) := by kernel_rfl
theorem sz_24 : AL.sz? X.P 24 = (some 3) := by kernel_rfl
theorem zc_24 : zC X.P 24 = (some [(.s []), (.v (.int .i64 (0))), (.v (.int .i64 (0)))]) := by kernel_rfl
theorem bt_24 : buildT X.P 24 = (some ([(.s []), (.v (.int .i64 (0))), (.v (.int .i64 (0)))], [(0, 1), (1, 1), (2, 1)])) := by kernel_rfl
theorem tk_26 : tk X.P 26 = .ptr := by kernel_rfl
theorem lay_26 : lay X.P 26 = (some (false, 1)) := by kernel_rfl
theorem sz_26 : AL.sz? X.P 26 = (some 1) := by kernel_rfl
theorem zc_26 : zC X.P 26 = (some [(.v (.pointer none))]) := by kernel_rfl
theorem tk_28 : tk X.P 28 = (.int .i64) := by kernel_rfl
theorem lay_28 : lay X.P 28 = (some (false, 1)) := by kernel_rfl
theorem sz_28 : AL.sz? X.P 28 = (some 1) := by kernel_rfl
theorem zc_28 : zC X.P 28 = (some [(.v (.int .i64 (0)))]) := by kernel_rfl
theorem tk_31 : tk X.P 31 = (.sl 9 (some 1)) := by kernel_rfl
theorem lay_31 : lay X.P 31 = (some (false, 1)) := by kernel_rfl
theorem sz_31 : AL.sz? X.P 31 = (some 1) := by kernel_rfl
theorem zc_31 : zC X.P 31 = (some [(.sl true [])]) := by kernel_rfl
theorem el_31 : elT X.P 31 = (some (9, (1, 16))) := by kernel_rfl
theorem tk_32 : tk X.P 32 = (.sl 34 (some 5)) := by kernel_rfl
theorem lay_32 : lay X.P 32 = (some (false, 1)) := by kernel_rfl
theorem sz_32 : AL.sz? X.P 32 = (some 1) := by kernel_rfl
theorem zc_32 : zC X.P 32 = (some [(.sl true [])]) := by kernel_rfl
theorem el_32 : elT X.P 32 = (some (34, (5, 80))) := by kernel_rfl
theorem tk_34 : tk X.P 34 = (.st [(some (0, (1, false))), (some (1, (1, false))), (some (2, (1, false))), (some (3, (1, false))), (some (4, (1, false)))]) := by kernel_rfl
theorem lay_34 : lay X.P 34 = (some (true, 5)) := by kernel_rfl
theorem sz_34 : AL.sz? X.P 34 = (some 5) := by kernel_rfl
theorem zc_34 : zC X.P 34 = (some [(.v (.int .i64 (0))), (.v (.int .i64 (0))), (.s []), (.sl true []), (.sl true [])]) := by kernel_rfl
theorem bt_34 : buildT X.P 34 = (some ([(.v (.int .i64 (0))), (.v (.int .i64 (0))), (.s []), (.sl true []), (.sl true [])], [(0, 1), (1, 1), (2, 1), (3, 1), (4, 1)])) := by kernel_rfl
theorem tk_38 : tk X.P 38 = (.map 9 24) := by kernel_rfl
theorem lay_38 : lay X.P 38 = (some (false, 1)) := by kernel_rfl
theorem sz_38 : AL.sz? X.P 38 = (some 1) := by kernel_rfl
theorem zc_38 : zC X.P 38 = (some [(.v (.map none))]) := by kernel_rfl
theorem mp_38 : mapT X.P 38 = (some (.str, (some (.agg [(.s []), (.v (.int .i64 (0))), (.v (.int .i64 (0)))])))) := by kernel_rfl
theorem tk_40 : tk X.P 40 = (.st [(some (0, (1, false)))]) := by kernel_rfl
theorem lay_40 : lay X.P 40 = (some (true, 1)) := by kernel_rfl
theorem sz_40 : AL.sz? X.P 40 = (some 1) := by kernel_rfl
theorem zc_40 : zC X.P 40 = (some [(.v (.map none))]) := by kernel_rfl
theorem bt_40 : buildT X.P 40 = (some ([(.v (.map none))], [(0, 1)])) := by kernel_rfl
theorem tk_41 : tk X.P 41 = (.sl 26 (some 1)) := by kernel_rfl
theorem lay_41 : lay X.P 41 = (some (false, 1)) := by kernel_rfl
theorem sz_41 : AL.sz? X.P 41 = (some 1) := by kernel_rfl
theorem zc_41 : zC X.P 41 = (some [(.sl true [])]) := by kernel_rfl
theorem el_41 : elT X.P 41 = (some (26, (1, 8))) := by kernel_rfl
theorem tk_51 : tk X.P 51 = .func := by kernel_rfl
theorem lay_51 : lay X.P 51 = (some (false, 1)) := by kernel_rfl
theorem sz_51 : AL.sz? X.P 51 = (some 1) := by kernel_rfl
theorem zc_51 : zC X.P 51 = (some [(.v .nilFunc)]) := by kernel_rfl
theorem tk_64 : tk X.P 64 = .func := by kernel_rfl
theorem lay_64 : lay X.P 64 = (some (false, 1)) := by kernel_rfl
theorem sz_64 : AL.sz? X.P 64 = (some 1) := by kernel_rfl
theorem zc_64 : zC X.P 64 = (some [(.v .nilFunc)]) := by kernel_rfl
theorem tk_67 : tk X.P 67 = (.sl 3 (some 1)) := by kernel_rfl
theorem lay_67 : lay X.P 67 = (some (false, 1)) := by kernel_rfl
theorem sz_67 : AL.sz? X.P 67 = (some 1) := by kernel_rfl
theorem zc_67 : zC X.P 67 = (some [(.sl true [])]) := by kernel_rfl
theorem el_67 : elT X.P 67 = (some (3, (1, 8))) := by kernel_rfl
theorem tk_77 : tk X.P 77 = .func := by kernel_rfl
theorem lay_77 : lay X.P 77 = (some (false, 1)) := by kernel_rfl
theorem sz_77 : AL.sz? X.P 77 = (some 1) := by kernel_rfl
theorem zc_77 : zC X.P 77 = (some [(.v .nilFunc)]) := by kernel_rfl
theorem tk_81 : tk X.P 81 = (.int .u64) := by kernel_rfl
theorem lay_81 : lay X.P 81 = (some (false, 1)) := by kernel_rfl
theorem sz_81 : AL.sz? X.P 81 = (some 1) := by kernel_rfl
theorem zc_81 : zC X.P 81 = (some [(.v (.int .u64 (0)))]) := by kernel_rfl
theorem tk_83 : tk X.P 83 = .func := by kernel_rfl
theorem lay_83 : lay X.P 83 = (some (false, 1)) := by kernel_rfl
theorem sz_83 : AL.sz? X.P 83 = (some 1) := by kernel_rfl
theorem zc_83 : zC X.P 83 = (some [(.v .nilFunc)]) := by kernel_rfl
theorem tk_85 : tk X.P 85 = (.arr 256 (some (1, false))) := by kernel_rfl
theorem lay_85 : lay X.P 85 = (some (true, 256)) := by kernel_rfl
theorem sz_85 : AL.sz? X.P 85 = (some 256) := by kernel_rfl
theorem zc_85 : zC X.P 85 = (some [(.v (.int .u8 (0))), (.v (.int .u8 (0))), (.v (.int .u8 (0))), (.v (.int .u8 (0))), (.v (.int .u8 (0))), (.v (.int .u8 (0))), (.v (.int .u8 (0))), (.v (.int .u8 (0))), (.v (.int .u8 (0))), (.v (.int .u8 (0))), (.v (.int .u8 (0))), (.v (.int .u8 (0))), (.v (.int .u8 (0))), (.v (.int .u8 (0))), (.v (.int .u8 (0))), (.v (.int .u8 (0))), (.v (.int .u8 (0))), (.v (.int .u8 (0))), (.v (.int .u8 (0))), (.v (.int .u8 (0))), (.v (.int .u8 (0))), (.v (.int .u8 (0))), (.v (.int .u8 (0))), (.v (.int .u8 (0))), (.v (.int .u8 (0))), (.v (.int .u8 (0))), (.v (.int .u8 (0))), (.v (.int .u8 (0))), (.v (.int .u8 (0))), (.v (.int .u8 (0))), (.v (.int .u8 (0))), (.v (.int .u8 (0))), (.v (.int .u8 (0))), (.v (.int .u8 (0))), (.v (.int .u8 (0))), (.v (.int .u8 (0))), (.v (.int .u8 (0))), (.v (.int .u8 (0))), (.v (.int .u8 (0))), (.v (.int .u8 (0))), (.v (.int .u8 (0))), (.v (.int .u8 (0))), (.v (.int .u8 (0))), (.v (.int .u8 (0))), (.v (.int .u8 (0))), (.v (.int .u8 (0))), (.v (.int .u8 (0))), (.v (.int .u8 (0))), (.v (.int .u8 (0))), (.v (.int .u8 (0))), (.v (.int .u8 (0))), (.v (.int .u8 (0))), (.v (.int .u8 (0))), (.v (.int .u8 (0))), (.v (.int .u8 (0))), (.v (.int .u8 (0))), (.v (.int .u8 (0))), (.v (.int .u8 (0))), (.v (.int .u8 (0))), (.v (.int .u8 (0))), (.v (.int .u8 (0))), (.v (.int .u8 (0))), (.v (.int .u8 (0))), (.v (.int .u8 (0))), (.v (.int .u8 (0))), (.v (.int .u8 (0))), (.v (.int .u8 (0))), (.v (.int .u8 (0))), (.v (.int .u8 (0))), (.v (.int .u8 (0))), (.v (.int .u8 (0))), (.v (.int .u8 (0))), (.v (.int .u8 (0))), (.v (.int .u8 (0))), (.v (.int .u8 (0))), (.v (.int .u8 (0))), (.v (.int .u8 (0))), (.v (.int .u8 (0))), (.v (.int .u8 (0))), (.v (.int .u8 (0))), (.v (.int .u8 (0))), (.v (.int .u8 (0))), (.v (.int .u8 (0))), (.v (.int .u8 (0))), (.v (.int .u8 (0))), (.v (.int .u8 (0))), (.v (.int .u8 (0))), (.v (.int .u8 (0))), (.v (.int .u8 (0))), (.v (.int .u8 (0))), (.v (.int .u8 (0))), (.v (.int .u8 (0))), (.v (.int .u8 (0))), (.v (.int .u8 (0))), (.v (.int .u8 (0))), (.v (.int .u8 (0))), (.v (.int .u8 (0))), (.v (.int .u8 (0))), (.v (.int .u8 (0))), (.v (.int .u8 (0))), (.v (.int .u8 (0))), (.v (.int .u8 (0))), (.v (.int .u8 (0))), (.v (.int .u8 (0))), (.v (.int .u8 (0))), (.v (.int .u8 (0))), (.v (.int .u8 (0))), (.v (.int .u8 (0))), (.v (.int .u8 (0))), (.v (.int .u8 (0))), (.v (.int .u8 (0))), (.v (.int .u8 (0))), (.v (.int .u8 (0))), (.v (.int .u8 (0))), (.v (.int .u8 (0))), (.v (.int .u8 (0))), (.v (.int .u8 (0))), (.v (.int .u8 (0))), (.v (.int .u8 (0))), (.v (.int .u8 (0))), (.v (.int .u8 (0))), (.v (.int .u8 (0))), (.v (.int .u8 (0))), (.v (.int .u8 (0))), (.v (.int .u8 (0))), (.v (.int .u8 (0))), (.v (.int .u8 (0))), (.v (.int .u8 (0))), (.v (.int .u8 (0))), (.v (.int .u8 (0))), (.v (.int .u8 (0))), (.v (.int .u8 (0))), (.v (.int .u8 (0))), (.v (.int .u8 (0))), (.v (.int .u8 (0))), (.v (.int .u8 (0))), (.v (.int .u8 (0))), (.v (.int .u8 (0))), (.v (.int .u8 (0))), (.v (.int .u8 (0))), (.v (.int .u8 (0))), (.v (.int .u8 (0))), (.v (.int .u8 (0))), (.v (.int .u8 (0))), (.v (.int .u8 (0))), (.v (.int .u8 (0))), (.v (.int .u8 (0))), (.v (.int .u8 (0))), (.v (.int .u8 (0))), (.v (.int .u8 (0))), (.v (.int .u8 (0))), (.v (.int .u8 (0))), (.v (.int .u8 (0))), (.v (.int .u8 (0))), (.v (.int .u8 (0))), (.v (.int .u8 (0))), (.v (.int .u8 (0))), (.v (.int .u8 (0))), (.v (.int .u8 (0))), (.v (.int .u8 (0))), (.v (.int .u8 (0))), (.v (.int .u8 (0))), (.v (.int .u8 (0))), (.v (.int .u8 (0))), (.v (.int .u8 (0))), (.v (.int .u8 (0))), (.v (.int .u8 (0))), (.v (.int .u8 (0))), (.v (.int .u8 (0))), (.v (.int .u8 (0))), (.v (.int .u8 (0))), (.v (.int .u8 (0))), (.v (.int .u8 (0))), (.v (.int .u8 (0))), (.v (.int .u8 (0))), (.v (.int .u8 (0))), (.v (.int .u8 (0))), (.v (.int .u8 (0))), (.v (.int .u8 (0))), (.v (.int .u8 (0))), (.v (.int .u8 (0))), (.v (.int .u8 (0))), (.v (.int .u8 (0))), (.v (.int .u8 (0))), (.v (.int .u8 (0))), (.v (.int .u8 (0))), (.v (.int .u8 (0))), (.v (.int .u8 (0))), (.v (.int .u8 (0))), (.v (.int .u8 (0))), (.v (.int .u8 (0))), (.v (.int .u8 (0))), (.v (.int .u8 (0))), (.v (.int .u8 (0))), (.v (.int .u8 (0))), (.v (.int .u8 (0))), (.v (.int .u8 (0))), (.v (.int .u8 (0))), (.v (.int .u8 (0))), (.v (.int .u8 (0))), (.v (.int .u8 (0))), (.v (.int .u8 (0))), (.v (.int .u8 (0))), (.v (.int .u8 (0))), (.v (.int .u8 (0))), (.v (.int .u8 (0))), (.v (.int .u8 (0))), (.v (.int .u8 (0))), (.v (.int .u8 (0))), (.v (.int .u8 (0))), (.v (.int .u8 (0))), (.v (.int .u8 (0))), (.v (.int .u8 (0))), (.v (.int .u8 (0))), (.v (.int .u8 (0))), (.v (.int .u8 (0))), (.v (.int .u8 (0))), (.v (.int .u8 (0))), (.v (.int .u8 (0))), (.v (.int .u8 (0))), (.v (.int .u8 (0))), (.v (.int .u8 (0))), (.v (.int .u8 (0))), (.v (.int .u8 (0))), (.v (.int .u8 (0))), (.v (.int .u8 (0))), (.v (.int .u8 (0))), (.v (.int .u8 (0))), (.v (.int .u8 (0))), (.v (.int .u8 (0))), (.v (.int .u8 (0))), (.v (.int .u8 (0))), (.v (.int .u8 (0))), (.v (.int .u8 (0))), (.v (.int .u8 (0))), (.v (.int .u8 (0))), (.v (.int .u8 (0))), (.v (.int .u8 (0))), (.v (.int .u8 (0))), (.v (.int .u8 (0))), (.v (.int .u8 (0))), (.v (.int .u8 (0))), (.v (.int .u8 (0))), (.v (.int .u8 (0))), (.v (.int .u8 (0))), (.v (.int .u8 (0))), (.v (.int .u8 (0))), (.v (.int .u8 (0))), (.v (.int .u8 (0))), (.v (.int .u8 (0))), (.v (.int .u8 (0))), (.v (.int .u8 (0))), (.v (.int .u8 (0))), (.v (.int .u8 (0))), (.v (.int .u8 (0))), (.v (.int .u8 (0)))]) := by kernel_rfl
theorem bt_85 : buildT X.P 85 = (some ([(.v (.int .u8 (0))), (.v (.int .u8 (0))), (.v (.int .u8 (0))), (.v (.int .u8 (0))), (.v (.int .u8 (0))), (.v (.int .u8 (0))), (.v (.int .u8 (0))), (.v (.int .u8 (0))), (.v (.int .u8 (0))), (.v (.int .u8 (0))), (.v (.int .u8 (0))), (.v (.int .u8 (0))), (.v (.int .u8 (0))), (.v (.int .u8 (0))), (.v (.int .u8 (0))), (.v (.int .u8 (0))), (.v (.int .u8 (0))), (.v (.int .u8 (0))), (.v (.int .u8 (0))), (.v (.int .u8 (0))), (.v (.int .u8 (0))), (.v (.int .u8 (0))), (.v (.int .u8 (0))), (.v (.int .u8 (0))), (.v (.int .u8 (0))), (.v (.int .u8 (0))), (.v (.int .u8 (0))), (.v (.int .u8 (0))), (.v (.int .u8 (0))), (.v (.int .u8 (0))), (.v (.int .u8 (0))), (.v (.int .u8 (0))), (.v (.int .u8 (0))), (.v (.int .u8 (0))), (.v (.int .u8 (0))), (.v (.int .u8 (0))), (.v (.int .u8 (0))), (.v (.int .u8 (0))), (.v (.int .u8 (0))), (.v (.int .u8 (0))), (.v (.int .u8 (0))), (.v (.int .u8 (0))), (.v (.int .u8 (0))), (.v (.int .u8 (0))), (.v (.int .u8 (0))), (.v (.int .u8 (0))), (.v (.int .u8 (0))), (.v (.int .u8 (0))), (.v (.int .u8 (0))), (.v (.int .u8 (0))), (.v (.int .u8 (0))), (.v (.int .u8 (0))), (.v (.int .u8 (0))), (.v (.int .u8 (0))), (.v (.int .u8 (0))), (.v (.int .u8 (0))), (.v (.int .u8 (0))), (.v (.int .u8 (0))), (.v (.int .u8 (0))), (.v (.int .u8 (0))), (.v (.int .u8 (0))), (.v (.int .u8 (0))), (.v (.int .u8 (0))), (.v (.int .u8 (0))), (.v (.int .u8 (0))), (.v (.int .u8 (0))), (.v (.int .u8 (0))), (.v (.int .u8 (0))), (.v (.int .u8 (0))), (.v (.int .u8 (0))), (.v (.int .u8 (0))), (.v (.int .u8 (0))), (.v (.int .u8 (0))), (.v (.int .u8 (0))), (.v (.int .u8 (0))), (.v (.int .u8 (0))), (.v (.int .u8 (0))), (.v (.int .u8 (0))), (.v (.int .u8 (0))), (.v (.int .u8 (0))), (.v (.int .u8 (0))), (.v (.int .u8 (0))), (.v (.int .u8 (0))), (.v (.int .u8 (0))), (.v (.int .u8 (0))), (.v (.int .u8 (0))), (.v (.int .u8 (0))), (.v (.int .u8 (0))), (.v (.int .u8 (0))), (.v (.int .u8 (0))), (.v (.int .u8 (0))), (.v (.int .u8 (0))), (.v (.int .u8 (0))), (.v (.int .u8 (0))), (.v (.int .u8 (0))), (.v (.int .u8 (0))), (.v (.int .u8 (0))), (.v (.int .u8 (0))), (.v (.int .u8 (0))), (.v (.int .u8 (0))), (.v (.int .u8 (0))), (.v (.int .u8 (0))), (.v (.int .u8 (0))), (.v (.int .u8 (0))), (.v (.int .u8 (0))), (.v (.int .u8 (0))), (.v (.int .u8 (0))), (.v (.int .u8 (0))), (.v (.int .u8 (0))), (.v (.int .u8 (0))), (.v (.int .u8 (0))), (.v (.int .u8 (0))), (.v (.int .u8 (0))), (.v (.int .u8 (0))), (.v (.int .u8 (0))), (.v (.int .u8 (0))), (.v (.int .u8 (0))), (.v (.int .u8 (0))), (.v (.int .u8 (0))), (.v (.int .u8 (0))), (.v (.int .u8 (0))), (.v (.int .u8 (0))), (.v (.int .u8 (0))), (.v (.int .u8 (0))), (.v (.int .u8 (0))), (.v (.int .u8 (0))), (.v (.int .u8 (0))), (.v (.int .u8 (0))), (.v (.int .u8 (0))), (.v (.int .u8 (0))), (.v (.int .u8 (0))), (.v (.int .u8 (0))), (.v (.int .u8 (0))), (.v (.int .u8 (0))), (.v (.int .u8 (0))), (.v (.int .u8 (0))), (.v (.int .u8 (0))), (.v (.int .u8 (0))), (.v (.int .u8 (0))), (.v (.int .u8 (0))), (.v (.int .u8 (0))), (.v (.int .u8 (0))), (.v (.int .u8 (0))), (.v (.int .u8 (0))), (.v (.int .u8 (0))), (.v (.int .u8 (0))), (.v (.int .u8 (0))), (.v (.int .u8 (0))), (.v (.int .u8 (0))), (.v (.int .u8 (0))), (.v (.int .u8 (0))), (.v (.int .u8 (0))), (.v (.int .u8 (0))), (.v (.int .u8 (0))), (.v (.int .u8 (0))), (.v (.int .u8 (0))), (.v (.int .u8 (0))), (.v (.int .u8 (0))), (.v (.int .u8 (0))), (.v (.int .u8 (0))), (.v (.int .u8 (0))), (.v (.int .u8 (0))), (.v (.int .u8 (0))), (.v (.int .u8 (0))), (.v (.int .u8 (0))), (.v (.int .u8 (0))), (.v (.int .u8 (0))), (.v (.int .u8 (0))), (.v (.int .u8 (0))), (.v (.int .u8 (0))), (.v (.int .u8 (0))), (.v (.int .u8 (0))), (.v (.int .u8 (0))), (.v (.int .u8 (0))), (.v (.int .u8 (0))), (.v (.int .u8 (0))), (.v (.int .u8 (0))), (.v (.int .u8 (0))), (.v (.int .u8 (0))), (.v (.int .u8 (0))), (.v (.int .u8 (0))), (.v (.int .u8 (0))), (.v (.int .u8 (0))), (.v (.int .u8 (0))), (.v (.int .u8 (0))), (.v (.int .u8 (0))), (.v (.int .u8 (0))), (.v (.int .u8 (0))), (.v (.int .u8 (0))), (.v (.int .u8 (0))), (.v (.int .u8 (0))), (.v (.int .u8 (0))), (.v (.int .u8 (0))), (.v (.int .u8 (0))), (.v (.int .u8 (0))), (.v (.int .u8 (0))), (.v (.int .u8 (0))), (.v (.int .u8 (0))), (.v (.int .u8 (0))), (.v (.int .u8 (0))), (.v (.int .u8 (0))), (.v (.int .u8 (0))), (.v (.int .u8 (0))), (.v (.int .u8 (0))), (.v (.int .u8 (0))), (.v (.int .u8 (0))), (.v (.int .u8 (0))), (.v (.int .u8 (0))), (.v (.int .u8 (0))), (.v (.int .u8 (0))), (.v (.int .u8 (0))), (.v (.int .u8 (0))), (.v (.int .u8 (0))), (.v (.int .u8 (0))), (.v (.int .u8 (0))), (.v (.int .u8 (0))), (.v (.int .u8 (0))), (.v (.int .u8 (0))), (.v (.int .u8 (0))), (.v (.int .u8 (0))), (.v (.int .u8 (0))), (.v (.int .u8 (0))), (.v (.int .u8 (0))), (.v (.int .u8 (0))), (.v (.int .u8 (0))), (.v (.int .u8 (0))), (.v (.int .u8 (0))), (.v (.int .u8 (0))), (.v (.int .u8 (0))), (.v (.int .u8 (0))), (.v (.int .u8 (0))), (.v (.int .u8 (0))), (.v (.int .u8 (0))), (.v (.int .u8 (0))), (.v (.int .u8 (0))), (.v (.int .u8 (0))), (.v (.int .u8 (0))), (.v (.int .u8 (0))), (.v (.int .u8 (0))), (.v (.int .u8 (0))), (.v (.int .u8 (0))), (.v (.int .u8 (0))), (.v (.int .u8 (0))), (.v (.int .u8 (0))), (.v (.int .u8 (0))), (.v (.int .u8 (0))), (.v (.int .u8 (0))), (.v (.int .u8 (0))), (.v (.int .u8 (0))), (.v (.int .u8 (0))), (.v (.int .u8 (0))), (.v (.int .u8 (0))), (.v (.int .u8 (0))), (.v (.int .u8 (0))), (.v (.int .u8 (0))), (.v (.int .u8 (0)))], [(0, 1), (1, 1), (2, 1), (3, 1), (4, 1), (5, 1), (6, 1), (7, 1), (8, 1), (9, 1), (10, 1), (11, 1), (12, 1), (13, 1), (14, 1), (15, 1), (16, 1), (17, 1), (18, 1), (19, 1), (20, 1), (21, 1), (22, 1), (23, 1), (24, 1), (25, 1), (26, 1), (27, 1), (28, 1), (29, 1), (30, 1), (31, 1), (32, 1), (33, 1), (34, 1), (35, 1), (36, 1), (37, 1), (38, 1), (39, 1), (40, 1), (41, 1), (42, 1), (43, 1), (44, 1), (45, 1), (46, 1), (47, 1), (48, 1), (49, 1), (50, 1), (51, 1), (52, 1), (53, 1), (54, 1), (55, 1), (56, 1), (57, 1), (58, 1), (59, 1), (60, 1), (61, 1), (62, 1), (63, 1), (64, 1), (65, 1), (66, 1), (67, 1), (68, 1), (69, 1), (70, 1), (71, 1), (72, 1), (73, 1), (74, 1), (75, 1), (76, 1), (77, 1), (78, 1), (79, 1), (80, 1), (81, 1), (82, 1), (83, 1), (84, 1), (85, 1), (86, 1), (87, 1), (88, 1), (89, 1), (90, 1), (91, 1), (92, 1), (93, 1), (94, 1), (95, 1), (96, 1), (97, 1), (98, 1), (99, 1), (100, 1), (101, 1), (102, 1), (103, 1), (104, 1), (105, 1), (106, 1), (107, 1), (108, 1), (109, 1), (110, 1), (111, 1), (112, 1), (113, 1), (114, 1), (115, 1), (116, 1), (117, 1), (118, 1), (119, 1), (120, 1), (121, 1), (122, 1), (123, 1), (124, 1), (125, 1), (126, 1), (127, 1), (128, 1), (129, 1), (130, 1), (131, 1), (132, 1), (133, 1), (134, 1), (135, 1), (136, 1), (137, 1), (138, 1), (139, 1), (140, 1), (141, 1), (142, 1), (143, 1), (144, 1), (145, 1), (146, 1), (147, 1), (148, 1), (149, 1), (150, 1), (151, 1), (152, 1), (153, 1), (154, 1), (155, 1), (156, 1), (157, 1), (158, 1), (159, 1), (160, 1), (161, 1), (162, 1), (163, 1), (164, 1), (165, 1), (166, 1), (167, 1), (168, 1), (169, 1), (170, 1), (171, 1), (172, 1), (173, 1), (174, 1), (175, 1), (176, 1), (177, 1), (178, 1), (179, 1), (180, 1), (181, 1), (182, 1), (183, 1), (184, 1), (185, 1), (186, 1), (187, 1), (188, 1), (189, 1), (190, 1), (191, 1), (192, 1), (193, 1), (194, 1), (195, 1), (196, 1), (197, 1), (198, 1), (199, 1), (200, 1), (201, 1), (202, 1), (203, 1), (204, 1), (205, 1), (206, 1), (207, 1), (208, 1), (209, 1), (210, 1), (211, 1), (212, 1), (213, 1), (214, 1), (215, 1), (216, 1), (217, 1), (218, 1), (219, 1), (220, 1), (221, 1), (222, 1), (223, 1), (224, 1), (225, 1), (226, 1), (227, 1), (228, 1), (229, 1), (230, 1), (231, 1), (232, 1), (233, 1), (234, 1), (235, 1), (236, 1), (237, 1), (238, 1), (239, 1), (240, 1), (241, 1), (242, 1), (243, 1), (244, 1), (245, 1), (246, 1), (247, 1), (248, 1), (249, 1), (250, 1), (251, 1), (252, 1), (253, 1), (254, 1), (255, 1)])) := by kernel_rfl
theorem tk_87 : tk X.P 87 = (.st [(some (0, (1, false))), (some (1, (1, false)))]) := by kernel_rfl
theorem lay_87 : lay X.P 87 = (some (true, 2)) := by kernel_rfl
theorem sz_87 : AL.sz? X.P 87 = (some 2) := by kernel_rfl
theorem zc_87 : zC X.P 87 = (some [(.v (.int .u8 (0))), (.v (.int .u8 (0)))]) := by kernel_rfl
theorem bt_87 : buildT X.P 87 = (some ([(.v (.int .u8 (0))), (.v (.int .u8 (0)))], [(0, 1), (1, 1)])) := by kernel_rfl
theorem tk_88 : tk X.P 88 = (.arr 16 (some (2, true))) := by kernel_rfl
theorem lay_88 : lay X.P 88 = (some (true, 32)) := by kernel_rfl
theorem sz_88 : AL.sz? X.P 88 = (some 32) := by kernel_rfl
theorem zc_88 : zC X.P 88 = (some [(.v (.int .u8 (0))), (.v (.int .u8 (0))), (.v (.int .u8 (0))), (.v (.int .u8 (0))), (.v (.int .u8 (0))), (.v (.int .u8 (0))), (.v (.int .u8 (0))), (.v (.int .u8 (0))), (.v (.int .u8 (0))), (.v (.int .u8 (0))), (.v (.int .u8 (0))), (.v (.int .u8 (0))), (.v (.int .u8 (0))), (.v (.int .u8 (0))), (.v (.int .u8 (0))), (.v (.int .u8 (0))), (.v (.int .u8 (0))), (.v (.int .u8 (0))), (.v (.int .u8 (0))), (.v (.int .u8 (0))), (.v (.int .u8 (0))), (.v (.int .u8 (0))), (.v (.int .u8 (0))), (.v (.int .u8 (0))), (.v (.int .u8 (0))), (.v (.int .u8 (0))), (.v (.int .u8 (0))), (.v (.int .u8 (0))), (.v (.int .u8 (0))), (.v (.int .u8 (0))), (.v (.int .u8 (0))), (.v (.int .u8 (0)))]) := by kernel_rfl
theorem bt_88 : buildT X.P 88 = (some ([(.v (.int .u8 (0))), (.v (.int .u8 (0))), (.v (.int .u8 (0))), (.v (.int .u8 (0))), (.v (.int .u8 (0))), (.v (.int .u8 (0))), (.v (.int .u8 (0))), (.v (.int .u8 (0))), (.v (.int .u8 (0))), (.v (.int .u8 (0))), (.v (.int .u8 (0))), (.v (.int .u8 (0))), (.v (.int .u8 (0))), (.v (.int .u8 (0))), (.v (.int .u8 (0))), (.v (.int .u8 (0))), (.v (.int .u8 (0))), (.v (.int .u8 (0))), (.v (.int .u8 (0))), (.v (.int .u8 (0))), (.v (.int .u8 (0))), (.v (.int .u8 (0))), (.v (.int .u8 (0))), (.v (.int .u8 (0))), (.v (.int .u8 (0))), (.v (.int .u8 (0))), (.v (.int .u8 (0))), (.v (.int .u8 (0))), (.v (.int .u8 (0))), (.v (.int .u8 (0))), (.v (.int .u8 (0))), (.v (.int .u8 (0)))], [(0, 2), (2, 2), (4, 2), (6, 2), (8, 2), (10, 2), (12, 2), (14, 2), (16, 2), (18, 2), (20, 2), (22, 2), (24, 2), (26, 2), (28, 2), (30, 2)])) := by kernel_rfl
theorem tk_89 : tk X.P 89 = (.map 9 4) := by kernel_rfl
theorem lay_89 : lay X.P 89 = (some (false, 1)) := by kernel_rfl
theorem sz_89 : AL.sz? X.P 89 = (some 1) := by kernel_rfl
theorem zc_89 : zC X.P 89 = (some [(.v (.map none))]) := by kernel_rfl
theorem mp_89 : mapT X.P 89 = (some (.str, (some (.v (.bool false))))) := by kernel_rfl
theorem tk_92 : tk X.P 92 = (.int .i64) := by kernel_rfl
theorem lay_92 : lay X.P 92 = (some (false, 1)) := by kernel_rfl
theorem sz_92 : AL.sz? X.P 92 = (some 1) := by kernel_rfl
theorem zc_92 : zC X.P 92 = (some [(.v (.int .i64 (0)))]) := by kernel_rfl
theorem tk_101 : tk X.P 101 = (.int .u32) := by kernel_rfl
theorem lay_101 : lay X.P 101 = (some (false, 1)) := by kernel_rfl
theorem sz_101 : AL.sz? X.P 101 = (some 1) := by kernel_rfl
theorem zc_101 : zC X.P 101 = (some [(.v (.int .u32 (0)))]) := by kernel_rfl
theorem tk_103 : tk X.P 103 = (.int .u64) := by kernel_rfl
theorem lay_103 : lay X.P 103 = (some (false, 1)) := by kernel_rfl
theorem sz_103 : AL.sz? X.P 103 = (some 1) := by kernel_rfl
theorem zc_103 : zC X.P 103 = (some [(.v (.int .u64 (0)))]) := by kernel_rfl
theorem tk_110 : tk X.P 110 = (.int .u64) := by kernel_rfl
theorem lay_110 : lay X.P 110 = (some (false, 1)) := by kernel_rfl
theorem sz_110 : AL.sz? X.P 110 = (some 1) := by kernel_rfl
theorem zc_110 : zC X.P 110 = (some [(.v (.int .u64 (0)))]) := by kernel_rfl
theorem tk_114 : tk X.P 114 = .ptr := by kernel_rfl
theorem lay_114 : lay X.P 114 = (some (false, 1)) := by kernel_rfl
theorem sz_114 : AL.sz? X.P 114 = (some 1) := by kernel_rfl
theorem zc_114 : zC X.P 114 = (some [(.v (.pointer none))]) := by kernel_rfl
theorem us_2 : (X.P.underlying 2).isSome = true := by kernel_rfl
theorem us_3 : (X.P.underlying 3).isSome = true := by kernel_rfl
theorem us_4 : (X.P.underlying 4).isSome = true := by kernel_rfl
theorem us_5 : (X.P.underlying 5).isSome = true := by kernel_rfl
theorem us_9 : (X.P.underlying 9).isSome = true := by kernel_rfl
theorem us_12 : (X.P.underlying 12).isSome = true := by kernel_rfl
theorem us_22 : (X.P.underlying 22).isSome = true := by kernel_rfl
theorem us_24 : (X.P.underlying 24).isSome = true := by kernel_rfl
theorem us_26 : (X.P.underlying 26).isSome = true := by kernel_rfl
theorem us_28 : (X.P.underlying 28).isSome = true := by kernel_rfl
theorem us_31 : (X.P.underlying 31).isSome = true := by kernel_rfl
theorem us_32 : (X.P.underlying 32).isSome = true := by kernel_rfl
theorem us_34 : (X.P.underlying 34).isSome = true := by kernel_rfl
theorem us_38 : (X.P.underlying 38).isSome = true := by kernel_rfl
theorem us_40 : (X.P.underlying 40).isSome = true := by kernel_rfl
theorem us_41 : (X.P.underlying 41).isSome = true := by kernel_rfl
theorem us_51 : (X.P.underlying 51).isSome = true := by kernel_rfl
theorem us_64 : (X.P.underlying 64).isSome = true := by kernel_rfl
theorem us_67 : (X.P.underlying 67).isSome = true := by kernel_rfl
theorem us_77 : (X.P.underlying 77).isSome = true := by kernel_rfl
theorem us_81 : (X.P.underlying 81).isSome = true := by kernel_rfl
theorem us_83 : (X.P.underlying 83).isSome = true := by kernel_rfl
theorem us_85 : (X.P.underlying 85).isSome = true := by kernel_rfl
theorem us_87 : (X.P.underlying 87).isSome = true := by kernel_rfl
theorem us_88 : (X.P.underlying 88).isSome = true := by kernel_rfl
theorem us_89 : (X.P.underlying 89).isSome = true := by kernel_rfl
theorem us_92 : (X.P.underlying 92).isSome = true := by kernel_rfl
theorem us_101 : (X.P.underlying 101).isSome = true := by kernel_rfl
theorem us_103 : (X.P.underlying 103).isSome = true := by kernel_rfl
theorem us_110 : (X.P.underlying 110).isSome = true := by kernel_rfl
theorem us_114 : (X.P.underlying 114).isSome = true := by kernel_rfl
attribute [go_sem] tk_2 lay_2 sz_2 tk_3 lay_3 sz_3 tk_4 lay_4 sz_4 tk_5 lay_5 sz_5
attribute [go_sem] tk_9 lay_9 sz_9 tk_12 lay_12 sz_12 tk_22 lay_22 sz_22 tk_24 lay_24 sz_24
attribute [go_sem] bt_24 tk_26 lay_26 sz_26 tk_28 lay_28 sz_28 tk_31 lay_31 sz_31 tk_32 lay_32
attribute [go_sem] sz_32 tk_34 lay_34 sz_34 bt_34 tk_38 lay_38 sz_38 mp_38 tk_40 lay_40 sz_40
attribute [go_sem] bt_40 tk_41 lay_41 sz_41 tk_51 lay_51 sz_51 tk_64 lay_64 sz_64 tk_67 lay_67
attribute [go_sem] sz_67 tk_77 lay_77 sz_77 tk_81 lay_81 sz_81 tk_83 lay_83 sz_83 tk_85 lay_85
attribute [go_sem] sz_85 bt_85 tk_87 lay_87 sz_87 bt_87 tk_88 lay_88 sz_88 bt_88 tk_89 lay_89
attribute [go_sem] sz_89 mp_89 tk_92 lay_92 sz_92 tk_101 lay_101 sz_101 tk_103 lay_103 sz_103 tk_110
attribute [go_sem] lay_110 sz_110 tk_114 lay_114 sz_114 us_2 us_3 us_4 us_5 us_9 us_12 us_22
attribute [go_sem] us_24 us_26 us_28 us_31 us_32 us_34 us_38 us_40 us_41 us_51 us_64 us_67
attribute [go_sem] us_77 us_81 us_83 us_85 us_87 us_88 us_89 us_92 us_101 us_103 us_110 us_114

end Go.Proofs.YtpdfgmedbphmkaaDoor
