/-
  The facts of this program's types, in short: each by the kernel's own reckoning. Printed by a program.
-/
import Derived.Test.YtpdfgmedbphmkaaGreatDoorProg
import Derived.Test.YtpdfgmedbphmkaaGreatDoorAL2
import Derived.Lib.ValidLaws
import Derived.KernelRfl
namespace Go.Proofs.YtpdfgmedbphmkaaGreatDoor
open Go Go.AL

/-- the package-level variables that the library reads: strings.Index's bound, and utf8's two tables -/
noncomputable def X : Ctx := ⟨Tryz.prog, fun F => (∃ m, F ⟨2, 0, none⟩ (.int .i64 m)) ∧ (∀ c, c < 256 → F ⟨0, c, none⟩ (.int .u8 (Lib.firstT c))) ∧ (∀ i, i < 16 → F ⟨1, 2 * i, none⟩ (.int .u8 (Lib.accLo i)) ∧ F ⟨1, 2 * i + 1, none⟩ (.int .u8 (Lib.accHi i))),
  fun _ _ h ⟨⟨m, k⟩, k1, k2⟩ => ⟨⟨m, h _ _ k⟩, fun c hc => h _ _ (k1 c hc), fun i hi => ⟨h _ _ (k2 i hi).1, h _ _ (k2 i hi).2⟩⟩, False⟩


theorem mixed : X.P.follows .mixedOrders = true := by kernel_rfl
theorem tk_2 : tk X.P 2 = (.int .i64) := by kernel_rfl
theorem lay_2 : lay X.P 2 = (some (false, 1)) := by kernel_rfl
theorem sz_2 : AL.sz? X.P 2 = (some 1) := by kernel_rfl
theorem zc_2 : zC X.P 2 = (some [(.v (.int .i64 (0)))]) := by kernel_rfl
theorem tk_3 : tk X.P 3 = (.int .i64) := by kernel_rfl
theorem lay_3 : lay X.P 3 = (some (false, 1)) := by kernel_rfl
theorem sz_3 : AL.sz? X.P 3 = (some 1) := by kernel_rfl
theorem zc_3 : zC X.P 3 = (some [(.v (.int .i64 (0)))]) := by kernel_rfl
theorem tk_4 : tk X.P 4 = .bool := by kernel_rfl
theorem lay_4 : lay X.P 4 = (some (false, 1)) := by kernel_rfl
theorem sz_4 : AL.sz? X.P 4 = (some 1) := by kernel_rfl
theorem zc_4 : zC X.P 4 = (some [(.v (.bool false))]) := by kernel_rfl
theorem tk_5 : tk X.P 5 = (.int .u8) := by kernel_rfl
theorem lay_5 : lay X.P 5 = (some (false, 1)) := by kernel_rfl
theorem sz_5 : AL.sz? X.P 5 = (some 1) := by kernel_rfl
theorem zc_5 : zC X.P 5 = (some [(.v (.int .u8 (0)))]) := by kernel_rfl
theorem tk_9 : tk X.P 9 = .str := by kernel_rfl
theorem lay_9 : lay X.P 9 = (some (false, 1)) := by kernel_rfl
theorem sz_9 : AL.sz? X.P 9 = (some 1) := by kernel_rfl
theorem zc_9 : zC X.P 9 = (some [(.s [])]) := by kernel_rfl
theorem tk_12 : tk X.P 12 = (.int .u64) := by kernel_rfl
theorem lay_12 : lay X.P 12 = (some (false, 1)) := by kernel_rfl
theorem sz_12 : AL.sz? X.P 12 = (some 1) := by kernel_rfl
theorem zc_12 : zC X.P 12 = (some [(.v (.int .u64 (0)))]) := by kernel_rfl
theorem tk_22 : tk X.P 22 = (.sl 9 (some 1)) := by kernel_rfl
theorem lay_22 : lay X.P 22 = (some (false, 1)) := by kernel_rfl
theorem sz_22 : AL.sz? X.P 22 = (some 1) := by kernel_rfl
theorem zc_22 : zC X.P 22 = (some [(.sl true [])]) := by kernel_rfl
theorem el_22 : elT X.P 22 = (some (9, (1, 16))) := by kernel_rfl
theorem tk_23 : tk X.P 23 = (.sl 25 (some 5)) := by kernel_rfl
theorem lay_23 : lay X.P 23 = (some (false, 1)) := by kernel_rfl
theorem sz_23 : AL.sz? X.P 23 = (some 1) := by kernel_rfl
theorem zc_23 : zC X.P 23 = (some [(.sl true [])]) := by kernel_rfl
theorem el_23 : elT X.P 23 = (some (25, (5, 80))) := by kernel_rfl
theorem tk_25 : tk X.P 25 = (.st [(some (0, (1, false))), (some (1, (1, false))), (some (2, (1, false))), (some (3, (1, false))), (some (4, (1, false)))]) := by kernel_rfl
theorem lay_25 : lay X.P 25 = (some (true, 5)) := by kernel_rfl
theorem sz_25 : AL.sz? X.P 25 = (some 5) := by kernel_rfl
theorem zc_25 : zC X.P 25 = (some [(.v (.int .i64 (0))), (.v (.int .i64 (0))), (.s []), (.sl true []), (.sl true [])]) := by kernel_rfl
theorem bt_25 : buildT X.P 25 = (some ([(.v (.int .i64 (0))), (.v (.int .i64 (0))), (.s []), (.sl true []), (.sl true [])], [(0, 1), (1, 1), (2, 1), (3, 1), (4, 1)])) := by kernel_rfl
theorem tk_27 : tk X.P 27 = .ptr := by kernel_rfl
theorem lay_27 : lay X.P 27 = (some (false, 1)) := by kernel_rfl
theorem sz_27 : AL.sz? X.P 27 = (some 1) := by kernel_rfl
theorem zc_27 : zC X.P 27 = (some [(.v (.pointer none))]) := by kernel_rfl
theorem tk_28 : tk X.P 28 = (.int .i64) := by kernel_rfl
theorem lay_28 : lay X.P 28 = (some (false, 1)) := by kernel_rfl
theorem sz_28 : AL.sz? X.P 28 = (some 1) := by kernel_rfl
theorem zc_28 : zC X.P 28 = (some [(.v (.int .i64 (0)))]) := by kernel_rfl
theorem tk_31 : tk X.P 31 = .ptr := by kernel_rfl
theorem lay_31 : lay X.P 31 = (some (false, 1)) := by kernel_rfl
theorem sz_31 : AL.sz? X.P 31 = (some 1) := by kernel_rfl
theorem zc_31 : zC X.P 31 = (some [(.v (.pointer none))]) := by kernel_rfl
theorem tk_35 : tk X.P 35 = (.sl 49 (some 3)) := by kernel_rfl
theorem lay_35 : lay X.P 35 = (some (false, 1)) := by kernel_rfl
theorem sz_35 : AL.sz? X.P 35 = (some 1) := by kernel_rfl
theorem zc_35 : zC X.P 35 = (some [(.sl true [])]) := by kernel_rfl
theorem el_35 : elT X.P 35 = (some (49, (3, 32))) := by kernel_rfl
theorem tk_38 : tk X.P 38 = (.st [(some (0, (1, false)))]) := by kernel_rfl
theorem lay_38 : lay X.P 38 = (some (true, 1)) := by kernel_rfl
theorem sz_38 : AL.sz? X.P 38 = (some 1) := by kernel_rfl
theorem zc_38 : zC X.P 38 = (some [(.sl true [])]) := by kernel_rfl
theorem bt_38 : buildT X.P 38 = (some ([(.sl true [])], [(0, 1)])) := by kernel_rfl
theorem tk_43 : tk X.P 43 = .func := by kernel_rfl
theorem lay_43 : lay X.P 43 = (some (false, 1)) := by kernel_rfl
theorem sz_43 : AL.sz? X.P 43 = (some 1) := by kernel_rfl
theorem zc_43 : zC X.P 43 = (some [(.v .nilFunc)]) := by kernel_rfl
theorem tk_49 : tk X.P 49 = (.st [(some (0, (1, false))), (some (1, (1, false))), (some (2, (1, false)))]) := by kernel_rfl
theorem lay_49 : lay X.P 49 = (some (true, 3)) := by kernel_rfl
theorem sz_49 : AL.sz? X.P 49 = (some 3) := by kernel_rfl
theorem zc_49 : zC X.P 49 = (some [(.s []), (.v (.int .i64 (0))), (.v (.int .i64 (0)))]) := by kernel_rfl
theorem bt_49 : buildT X.P 49 = (some ([(.s []), (.v (.int .i64 (0))), (.v (.int .i64 (0)))], [(0, 1), (1, 1), (2, 1)])) := by kernel_rfl
theorem tk_53 : tk X.P 53 = (.map 9 49) := by kernel_rfl
theorem lay_53 : lay X.P 53 = (some (false, 1)) := by kernel_rfl
theorem sz_53 : AL.sz? X.P 53 = (some 1) := by kernel_rfl
theorem zc_53 : zC X.P 53 = (some [(.v (.map none))]) := by kernel_rfl
theorem mp_53 : mapT X.P 53 = (some (.str, (some (.agg [(.s []), (.v (.int .i64 (0))), (.v (.int .i64 (0)))])))) := by kernel_rfl
theorem tk_55 : tk X.P 55 = (.st [(some (0, (1, false)))]) := by kernel_rfl
theorem lay_55 : lay X.P 55 = (some (true, 1)) := by kernel_rfl
theorem sz_55 : AL.sz? X.P 55 = (some 1) := by kernel_rfl
theorem zc_55 : zC X.P 55 = (some [(.v (.map none))]) := by kernel_rfl
theorem bt_55 : buildT X.P 55 = (some ([(.v (.map none))], [(0, 1)])) := by kernel_rfl
theorem tk_70 : tk X.P 70 = .func := by kernel_rfl
theorem lay_70 : lay X.P 70 = (some (false, 1)) := by kernel_rfl
theorem sz_70 : AL.sz? X.P 70 = (some 1) := by kernel_rfl
theorem zc_70 : zC X.P 70 = (some [(.v .nilFunc)]) := by kernel_rfl
theorem tk_72 : tk X.P 72 = (.sl 4 (some 1)) := by kernel_rfl
theorem lay_72 : lay X.P 72 = (some (false, 1)) := by kernel_rfl
theorem sz_72 : AL.sz? X.P 72 = (some 1) := by kernel_rfl
theorem zc_72 : zC X.P 72 = (some [(.sl true [])]) := by kernel_rfl
theorem el_72 : elT X.P 72 = (some (4, (1, 1))) := by kernel_rfl
theorem tk_75 : tk X.P 75 = (.sl 3 (some 1)) := by kernel_rfl
theorem lay_75 : lay X.P 75 = (some (false, 1)) := by kernel_rfl
theorem sz_75 : AL.sz? X.P 75 = (some 1) := by kernel_rfl
theorem zc_75 : zC X.P 75 = (some [(.sl true [])]) := by kernel_rfl
theorem el_75 : elT X.P 75 = (some (3, (1, 8))) := by kernel_rfl
theorem tk_83 : tk X.P 83 = .func := by kernel_rfl
theorem lay_83 : lay X.P 83 = (some (false, 1)) := by kernel_rfl
theorem sz_83 : AL.sz? X.P 83 = (some 1) := by kernel_rfl
theorem zc_83 : zC X.P 83 = (some [(.v .nilFunc)]) := by kernel_rfl
theorem tk_89 : tk X.P 89 = (.int .u64) := by kernel_rfl
theorem lay_89 : lay X.P 89 = (some (false, 1)) := by kernel_rfl
theorem sz_89 : AL.sz? X.P 89 = (some 1) := by kernel_rfl
theorem zc_89 : zC X.P 89 = (some [(.v (.int .u64 (0)))]) := by kernel_rfl
theorem tk_91 : tk X.P 91 = (.arr 256 (some (1, false))) := by kernel_rfl
theorem lay_91 : lay X.P 91 = (some (true, 256)) := by kernel_rfl
theorem sz_91 : AL.sz? X.P 91 = (some 256) := by kernel_rfl
theorem zc_91 : zC X.P 91 = (some [(.v (.int .u8 (0))), (.v (.int .u8 (0))), (.v (.int .u8 (0))), (.v (.int .u8 (0))), (.v (.int .u8 (0))), (.v (.int .u8 (0))), (.v (.int .u8 (0))), (.v (.int .u8 (0))), (.v (.int .u8 (0))), (.v (.int .u8 (0))), (.v (.int .u8 (0))), (.v (.int .u8 (0))), (.v (.int .u8 (0))), (.v (.int .u8 (0))), (.v (.int .u8 (0))), (.v (.int .u8 (0))), (.v (.int .u8 (0))), (.v (.int .u8 (0))), (.v (.int .u8 (0))), (.v (.int .u8 (0))), (.v (.int .u8 (0))), (.v (.int .u8 (0))), (.v (.int .u8 (0))), (.v (.int .u8 (0))), (.v (.int .u8 (0))), (.v (.int .u8 (0))), (.v (.int .u8 (0))), (.v (.int .u8 (0))), (.v (.int .u8 (0))), (.v (.int .u8 (0))), (.v (.int .u8 (0))), (.v (.int .u8 (0))), (.v (.int .u8 (0))), (.v (.int .u8 (0))), (.v (.int .u8 (0))), (.v (.int .u8 (0))), (.v (.int .u8 (0))), (.v (.int .u8 (0))), (.v (.int .u8 (0))), (.v (.int .u8 (0))), (.v (.int .u8 (0))), (.v (.int .u8 (0))), (.v (.int .u8 (0))), (.v (.int .u8 (0))), (.v (.int .u8 (0))), (.v (.int .u8 (0))), (.v (.int .u8 (0))), (.v (.int .u8 (0))), (.v (.int .u8 (0))), (.v (.int .u8 (0))), (.v (.int .u8 (0))), (.v (.int .u8 (0))), (.v (.int .u8 (0))), (.v (.int .u8 (0))), (.v (.int .u8 (0))), (.v (.int .u8 (0))), (.v (.int .u8 (0))), (.v (.int .u8 (0))), (.v (.int .u8 (0))), (.v (.int .u8 (0))), (.v (.int .u8 (0))), (.v (.int .u8 (0))), (.v (.int .u8 (0))), (.v (.int .u8 (0))), (.v (.int .u8 (0))), (.v (.int .u8 (0))), (.v (.int .u8 (0))), (.v (.int .u8 (0))), (.v (.int .u8 (0))), (.v (.int .u8 (0))), (.v (.int .u8 (0))), (.v (.int .u8 (0))), (.v (.int .u8 (0))), (.v (.int .u8 (0))), (.v (.int .u8 (0))), (.v (.int .u8 (0))), (.v (.int .u8 (0))), (.v (.int .u8 (0))), (.v (.int .u8 (0))), (.v (.int .u8 (0))), (.v (.int .u8 (0))), (.v (.int .u8 (0))), (.v (.int .u8 (0))), (.v (.int .u8 (0))), (.v (.int .u8 (0))), (.v (.int .u8 (0))), (.v (.int .u8 (0))), (.v (.int .u8 (0))), (.v (.int .u8 (0))), (.v (.int .u8 (0))), (.v (.int .u8 (0))), (.v (.int .u8 (0))), (.v (.int .u8 (0))), (.v (.int .u8 (0))), (.v (.int .u8 (0))), (.v (.int .u8 (0))), (.v (.int .u8 (0))), (.v (.int .u8 (0))), (.v (.int .u8 (0))), (.v (.int .u8 (0))), (.v (.int .u8 (0))), (.v (.int .u8 (0))), (.v (.int .u8 (0))), (.v (.int .u8 (0))), (.v (.int .u8 (0))), (.v (.int .u8 (0))), (.v (.int .u8 (0))), (.v (.int .u8 (0))), (.v (.int .u8 (0))), (.v (.int .u8 (0))), (.v (.int .u8 (0))), (.v (.int .u8 (0))), (.v (.int .u8 (0))), (.v (.int .u8 (0))), (.v (.int .u8 (0))), (.v (.int .u8 (0))), (.v (.int .u8 (0))), (.v (.int .u8 (0))), (.v (.int .u8 (0))), (.v (.int .u8 (0))), (.v (.int .u8 (0))), (.v (.int .u8 (0))), (.v (.int .u8 (0))), (.v (.int .u8 (0))), (.v (.int .u8 (0))), (.v (.int .u8 (0))), (.v (.int .u8 (0))), (.v (.int .u8 (0))), (.v (.int .u8 (0))), (.v (.int .u8 (0))), (.v (.int .u8 (0))), (.v (.int .u8 (0))), (.v (.int .u8 (0))), (.v (.int .u8 (0))), (.v (.int .u8 (0))), (.v (.int .u8 (0))), (.v (.int .u8 (0))), (.v (.int .u8 (0))), (.v (.int .u8 (0))), (.v (.int .u8 (0))), (.v (.int .u8 (0))), (.v (.int .u8 (0))), (.v (.int .u8 (0))), (.v (.int .u8 (0))), (.v (.int .u8 (0))), (.v (.int .u8 (0))), (.v (.int .u8 (0))), (.v (.int .u8 (0))), (.v (.int .u8 (0))), (.v (.int .u8 (0))), (.v (.int .u8 (0))), (.v (.int .u8 (0))), (.v (.int .u8 (0))), (.v (.int .u8 (0))), (.v (.int .u8 (0))), (.v (.int .u8 (0))), (.v (.int .u8 (0))), (.v (.int .u8 (0))), (.v (.int .u8 (0))), (.v (.int .u8 (0))), (.v (.int .u8 (0))), (.v (.int .u8 (0))), (.v (.int .u8 (0))), (.v (.int .u8 (0))), (.v (.int .u8 (0))), (.v (.int .u8 (0))), (.v (.int .u8 (0))), (.v (.int .u8 (0))), (.v (.int .u8 (0))), (.v (.int .u8 (0))), (.v (.int .u8 (0))), (.v (.int .u8 (0))), (.v (.int .u8 (0))), (.v (.int .u8 (0))), (.v (.int .u8 (0))), (.v (.int .u8 (0))), (.v (.int .u8 (0))), (.v (.int .u8 (0))), (.v (.int .u8 (0))), (.v (.int .u8 (0))), (.v (.int .u8 (0))), (.v (.int .u8 (0))), (.v (.int .u8 (0))), (.v (.int .u8 (0))), (.v (.int .u8 (0))), (.v (.int .u8 (0))), (.v (.int .u8 (0))), (.v (.int .u8 (0))), (.v (.int .u8 (0))), (.v (.int .u8 (0))), (.v (.int .u8 (0))), (.v (.int .u8 (0))), (.v (.int .u8 (0))), (.v (.int .u8 (0))), (.v (.int .u8 (0))), (.v (.int .u8 (0))), (.v (.int .u8 (0))), (.v (.int .u8 (0))), (.v (.int .u8 (0))), (.v (.int .u8 (0))), (.v (.int .u8 (0))), (.v (.int .u8 (0))), (.v (.int .u8 (0))), (.v (.int .u8 (0))), (.v (.int .u8 (0))), (.v (.int .u8 (0))), (.v (.int .u8 (0))), (.v (.int .u8 (0))), (.v (.int .u8 (0))), (.v (.int .u8 (0))), (.v (.int .u8 (0))), (.v (.int .u8 (0))), (.v (.int .u8 (0))), (.v (.int .u8 (0))), (.v (.int .u8 (0))), (.v (.int .u8 (0))), (.v (.int .u8 (0))), (.v (.int .u8 (0))), (.v (.int .u8 (0))), (.v (.int .u8 (0))), (.v (.int .u8 (0))), (.v (.int .u8 (0))), (.v (.int .u8 (0))), (.v (.int .u8 (0))), (.v (.int .u8 (0))), (.v (.int .u8 (0))), (.v (.int .u8 (0))), (.v (.int .u8 (0))), (.v (.int .u8 (0))), (.v (.int .u8 (0))), (.v (.int .u8 (0))), (.v (.int .u8 (0))), (.v (.int .u8 (0))), (.v (.int .u8 (0))), (.v (.int .u8 (0))), (.v (.int .u8 (0))), (.v (.int .u8 (0))), (.v (.int .u8 (0))), (.v (.int .u8 (0))), (.v (.int .u8 (0))), (.v (.int .u8 (0))), (.v (.int .u8 (0))), (.v (.int .u8 (0))), (.v (.int .u8 (0))), (.v (.int .u8 (0))), (.v (.int .u8 (0))), (.v (.int .u8 (0))), (.v (.int .u8 (0))), (.v (.int .u8 (0))), (.v (.int .u8 (0))), (.v (.int .u8 (0))), (.v (.int .u8 (0))), (.v (.int .u8 (0))), (.v (.int .u8 (0))), (.v (.int .u8 (0))), (.v (.int .u8 (0)))]) := by kernel_rfl
theorem bt_91 : buildT X.P 91 = (some ([(.v (.int .u8 (0))), (.v (.int .u8 (0))), (.v (.int .u8 (0))), (.v (.int .u8 (0))), (.v (.int .u8 (0))), (.v (.int .u8 (0))), (.v (.int .u8 (0))), (.v (.int .u8 (0))), (.v (.int .u8 (0))), (.v (.int .u8 (0))), (.v (.int .u8 (0))), (.v (.int .u8 (0))), (.v (.int .u8 (0))), (.v (.int .u8 (0))), (.v (.int .u8 (0))), (.v (.int .u8 (0))), (.v (.int .u8 (0))), (.v (.int .u8 (0))), (.v (.int .u8 (0))), (.v (.int .u8 (0))), (.v (.int .u8 (0))), (.v (.int .u8 (0))), (.v (.int .u8 (0))), (.v (.int .u8 (0))), (.v (.int .u8 (0))), (.v (.int .u8 (0))), (.v (.int .u8 (0))), (.v (.int .u8 (0))), (.v (.int .u8 (0))), (.v (.int .u8 (0))), (.v (.int .u8 (0))), (.v (.int .u8 (0))), (.v (.int .u8 (0))), (.v (.int .u8 (0))), (.v (.int .u8 (0))), (.v (.int .u8 (0))), (.v (.int .u8 (0))), (.v (.int .u8 (0))), (.v (.int .u8 (0))), (.v (.int .u8 (0))), (.v (.int .u8 (0))), (.v (.int .u8 (0))), (.v (.int .u8 (0))), (.v (.int .u8 (0))), (.v (.int .u8 (0))), (.v (.int .u8 (0))), (.v (.int .u8 (0))), (.v (.int .u8 (0))), (.v (.int .u8 (0))), (.v (.int .u8 (0))), (.v (.int .u8 (0))), (.v (.int .u8 (0))), (.v (.int .u8 (0))), (.v (.int .u8 (0))), (.v (.int .u8 (0))), (.v (.int .u8 (0))), (.v (.int .u8 (0))), (.v (.int .u8 (0))), (.v (.int .u8 (0))), (.v (.int .u8 (0))), (.v (.int .u8 (0))), (.v (.int .u8 (0))), (.v (.int .u8 (0))), (.v (.int .u8 (0))), (.v (.int .u8 (0))), (.v (.int .u8 (0))), (.v (.int .u8 (0))), (.v (.int .u8 (0))), (.v (.int .u8 (0))), (.v (.int .u8 (0))), (.v (.int .u8 (0))), (.v (.int .u8 (0))), (.v (.int .u8 (0))), (.v (.int .u8 (0))), (.v (.int .u8 (0))), (.v (.int .u8 (0))), (.v (.int .u8 (0))), (.v (.int .u8 (0))), (.v (.int .u8 (0))), (.v (.int .u8 (0))), (.v (.int .u8 (0))), (.v (.int .u8 (0))), (.v (.int .u8 (0))), (.v (.int .u8 (0))), (.v (.int .u8 (0))), (.v (.int .u8 (0))), (.v (.int .u8 (0))), (.v (.int .u8 (0))), (.v (.int .u8 (0))), (.v (.int .u8 (0))), (.v (.int .u8 (0))), (.v (.int .u8 (0))), (.v (.int .u8 (0))), (.v (.int .u8 (0))), (.v (.int .u8 (0))), (.v (.int .u8 (0))), (.v (.int .u8 (0))), (.v (.int .u8 (0))), (.v (.int .u8 (0))), (.v (.int .u8 (0))), (.v (.int .u8 (0))), (.v (.int .u8 (0))), (.v (.int .u8 (0))), (.v (.int .u8 (0))), (.v (.int .u8 (0))), (.v (.int .u8 (0))), (.v (.int .u8 (0))), (.v (.int .u8 (0))), (.v (.int .u8 (0))), (.v (.int .u8 (0))), (.v (.int .u8 (0))), (.v (.int .u8 (0))), (.v (.int .u8 (0))), (.v (.int .u8 (0))), (.v (.int .u8 (0))), (.v (.int .u8 (0))), (.v (.int .u8 (0))), (.v (.int .u8 (0))), (.v (.int .u8 (0))), (.v (.int .u8 (0))), (.v (.int .u8 (0))), (.v (.int .u8 (0))), (.v (.int .u8 (0))), (.v (.int .u8 (0))), (.v (.int .u8 (0))), (.v (.int .u8 (0))), (.v (.int .u8 (0))), (.v (.int .u8 (0))), (.v (.int .u8 (0))), (.v (.int .u8 (0))), (.v (.int .u8 (0))), (.v (.int .u8 (0))), (.v (.int .u8 (0))), (.v (.int .u8 (0))), (.v (.int .u8 (0))), (.v (.int .u8 (0))), (.v (.int .u8 (0))), (.v (.int .u8 (0))), (.v (.int .u8 (0))), (.v (.int .u8 (0))), (.v (.int .u8 (0))), (.v (.int .u8 (0))), (.v (.int .u8 (0))), (.v (.int .u8 (0))), (.v (.int .u8 (0))), (.v (.int .u8 (0))), (.v (.int .u8 (0))), (.v (.int .u8 (0))), (.v (.int .u8 (0))), (.v (.int .u8 (0))), (.v (.int .u8 (0))), (.v (.int .u8 (0))), (.v (.int .u8 (0))), (.v (.int .u8 (0))), (.v (.int .u8 (0))), (.v (.int .u8 (0))), (.v (.int .u8 (0))), (.v (.int .u8 (0))), (.v (.int .u8 (0))), (.v (.int .u8 (0))), (.v (.int .u8 (0))), (.v (.int .u8 (0))), (.v (.int .u8 (0))), (.v (.int .u8 (0))), (.v (.int .u8 (0))), (.v (.int .u8 (0))), (.v (.int .u8 (0))), (.v (.int .u8 (0))), (.v (.int .u8 (0))), (.v (.int .u8 (0))), (.v (.int .u8 (0))), (.v (.int .u8 (0))), (.v (.int .u8 (0))), (.v (.int .u8 (0))), (.v (.int .u8 (0))), (.v (.int .u8 (0))), (.v (.int .u8 (0))), (.v (.int .u8 (0))), (.v (.int .u8 (0))), (.v (.int .u8 (0))), (.v (.int .u8 (0))), (.v (.int .u8 (0))), (.v (.int .u8 (0))), (.v (.int .u8 (0))), (.v (.int .u8 (0))), (.v (.int .u8 (0))), (.v (.int .u8 (0))), (.v (.int .u8 (0))), (.v (.int .u8 (0))), (.v (.int .u8 (0))), (.v (.int .u8 (0))), (.v (.int .u8 (0))), (.v (.int .u8 (0))), (.v (.int .u8 (0))), (.v (.int .u8 (0))), (.v (.int .u8 (0))), (.v (.int .u8 (0))), (.v (.int .u8 (0))), (.v (.int .u8 (0))), (.v (.int .u8 (0))), (.v (.int .u8 (0))), (.v (.int .u8 (0))), (.v (.int .u8 (0))), (.v (.int .u8 (0))), (.v (.int .u8 (0))), (.v (.int .u8 (0))), (.v (.int .u8 (0))), (.v (.int .u8 (0))), (.v (.int .u8 (0))), (.v (.int .u8 (0))), (.v (.int .u8 (0))), (.v (.int .u8 (0))), (.v (.int .u8 (0))), (.v (.int .u8 (0))), (.v (.int .u8 (0))), (.v (.int .u8 (0))), (.v (.int .u8 (0))), (.v (.int .u8 (0))), (.v (.int .u8 (0))), (.v (.int .u8 (0))), (.v (.int .u8 (0))), (.v (.int .u8 (0))), (.v (.int .u8 (0))), (.v (.int .u8 (0))), (.v (.int .u8 (0))), (.v (.int .u8 (0))), (.v (.int .u8 (0))), (.v (.int .u8 (0))), (.v (.int .u8 (0))), (.v (.int .u8 (0))), (.v (.int .u8 (0))), (.v (.int .u8 (0))), (.v (.int .u8 (0))), (.v (.int .u8 (0))), (.v (.int .u8 (0))), (.v (.int .u8 (0))), (.v (.int .u8 (0))), (.v (.int .u8 (0))), (.v (.int .u8 (0))), (.v (.int .u8 (0))), (.v (.int .u8 (0))), (.v (.int .u8 (0))), (.v (.int .u8 (0))), (.v (.int .u8 (0))), (.v (.int .u8 (0))), (.v (.int .u8 (0))), (.v (.int .u8 (0))), (.v (.int .u8 (0))), (.v (.int .u8 (0))), (.v (.int .u8 (0))), (.v (.int .u8 (0))), (.v (.int .u8 (0))), (.v (.int .u8 (0))), (.v (.int .u8 (0))), (.v (.int .u8 (0))), (.v (.int .u8 (0)))], [(0, 1), (1, 1), (2, 1), (3, 1), (4, 1), (5, 1), (6, 1), (7, 1), (8, 1), (9, 1), (10, 1), (11, 1), (12, 1), (13, 1), (14, 1), (15, 1), (16, 1), (17, 1), (18, 1), (19, 1), (20, 1), (21, 1), (22, 1), (23, 1), (24, 1), (25, 1), (26, 1), (27, 1), (28, 1), (29, 1), (30, 1), (31, 1), (32, 1), (33, 1), (34, 1), (35, 1), (36, 1), (37, 1), (38, 1), (39, 1), (40, 1), (41, 1), (42, 1), (43, 1), (44, 1), (45, 1), (46, 1), (47, 1), (48, 1), (49, 1), (50, 1), (51, 1), (52, 1), (53, 1), (54, 1), (55, 1), (56, 1), (57, 1), (58, 1), (59, 1), (60, 1), (61, 1), (62, 1), (63, 1), (64, 1), (65, 1), (66, 1), (67, 1), (68, 1), (69, 1), (70, 1), (71, 1), (72, 1), (73, 1), (74, 1), (75, 1), (76, 1), (77, 1), (78, 1), (79, 1), (80, 1), (81, 1), (82, 1), (83, 1), (84, 1), (85, 1), (86, 1), (87, 1), (88, 1), (89, 1), (90, 1), (91, 1), (92, 1), (93, 1), (94, 1), (95, 1), (96, 1), (97, 1), (98, 1), (99, 1), (100, 1), (101, 1), (102, 1), (103, 1), (104, 1), (105, 1), (106, 1), (107, 1), (108, 1), (109, 1), (110, 1), (111, 1), (112, 1), (113, 1), (114, 1), (115, 1), (116, 1), (117, 1), (118, 1), (119, 1), (120, 1), (121, 1), (122, 1), (123, 1), (124, 1), (125, 1), (126, 1), (127, 1), (128, 1), (129, 1), (130, 1), (131, 1), (132, 1), (133, 1), (134, 1), (135, 1), (136, 1), (137, 1), (138, 1), (139, 1), (140, 1), (141, 1), (142, 1), (143, 1), (144, 1), (145, 1), (146, 1), (147, 1), (148, 1), (149, 1), (150, 1), (151, 1), (152, 1), (153, 1), (154, 1), (155, 1), (156, 1), (157, 1), (158, 1), (159, 1), (160, 1), (161, 1), (162, 1), (163, 1), (164, 1), (165, 1), (166, 1), (167, 1), (168, 1), (169, 1), (170, 1), (171, 1), (172, 1), (173, 1), (174, 1), (175, 1), (176, 1), (177, 1), (178, 1), (179, 1), (180, 1), (181, 1), (182, 1), (183, 1), (184, 1), (185, 1), (186, 1), (187, 1), (188, 1), (189, 1), (190, 1), (191, 1), (192, 1), (193, 1), (194, 1), (195, 1), (196, 1), (197, 1), (198, 1), (199, 1), (200, 1), (201, 1), (202, 1), (203, 1), (204, 1), (205, 1), (206, 1), (207, 1), (208, 1), (209, 1), (210, 1), (211, 1), (212, 1), (213, 1), (214, 1), (215, 1), (216, 1), (217, 1), (218, 1), (219, 1), (220, 1), (221, 1), (222, 1), (223, 1), (224, 1), (225, 1), (226, 1), (227, 1), (228, 1), (229, 1), (230, 1), (231, 1), (232, 1), (233, 1), (234, 1), (235, 1), (236, 1), (237, 1), (238, 1), (239, 1), (240, 1), (241, 1), (242, 1), (243, 1), (244, 1), (245, 1), (246, 1), (247, 1), (248, 1), (249, 1), (250, 1), (251, 1), (252, 1), (253, 1), (254, 1), (255, 1)])) := by kernel_rfl
theorem tk_93 : tk X.P 93 = (.st [(some (0, (1, false))), (some (1, (1, false)))]) := by kernel_rfl
theorem lay_93 : lay X.P 93 = (some (true, 2)) := by kernel_rfl
theorem sz_93 : AL.sz? X.P 93 = (some 2) := by kernel_rfl
theorem zc_93 : zC X.P 93 = (some [(.v (.int .u8 (0))), (.v (.int .u8 (0)))]) := by kernel_rfl
theorem bt_93 : buildT X.P 93 = (some ([(.v (.int .u8 (0))), (.v (.int .u8 (0)))], [(0, 1), (1, 1)])) := by kernel_rfl
theorem tk_94 : tk X.P 94 = (.arr 16 (some (2, true))) := by kernel_rfl
theorem lay_94 : lay X.P 94 = (some (true, 32)) := by kernel_rfl
theorem sz_94 : AL.sz? X.P 94 = (some 32) := by kernel_rfl
theorem zc_94 : zC X.P 94 = (some [(.v (.int .u8 (0))), (.v (.int .u8 (0))), (.v (.int .u8 (0))), (.v (.int .u8 (0))), (.v (.int .u8 (0))), (.v (.int .u8 (0))), (.v (.int .u8 (0))), (.v (.int .u8 (0))), (.v (.int .u8 (0))), (.v (.int .u8 (0))), (.v (.int .u8 (0))), (.v (.int .u8 (0))), (.v (.int .u8 (0))), (.v (.int .u8 (0))), (.v (.int .u8 (0))), (.v (.int .u8 (0))), (.v (.int .u8 (0))), (.v (.int .u8 (0))), (.v (.int .u8 (0))), (.v (.int .u8 (0))), (.v (.int .u8 (0))), (.v (.int .u8 (0))), (.v (.int .u8 (0))), (.v (.int .u8 (0))), (.v (.int .u8 (0))), (.v (.int .u8 (0))), (.v (.int .u8 (0))), (.v (.int .u8 (0))), (.v (.int .u8 (0))), (.v (.int .u8 (0))), (.v (.int .u8 (0))), (.v (.int .u8 (0)))]) := by kernel_rfl
theorem bt_94 : buildT X.P 94 = (some ([(.v (.int .u8 (0))), (.v (.int .u8 (0))), (.v (.int .u8 (0))), (.v (.int .u8 (0))), (.v (.int .u8 (0))), (.v (.int .u8 (0))), (.v (.int .u8 (0))), (.v (.int .u8 (0))), (.v (.int .u8 (0))), (.v (.int .u8 (0))), (.v (.int .u8 (0))), (.v (.int .u8 (0))), (.v (.int .u8 (0))), (.v (.int .u8 (0))), (.v (.int .u8 (0))), (.v (.int .u8 (0))), (.v (.int .u8 (0))), (.v (.int .u8 (0))), (.v (.int .u8 (0))), (.v (.int .u8 (0))), (.v (.int .u8 (0))), (.v (.int .u8 (0))), (.v (.int .u8 (0))), (.v (.int .u8 (0))), (.v (.int .u8 (0))), (.v (.int .u8 (0))), (.v (.int .u8 (0))), (.v (.int .u8 (0))), (.v (.int .u8 (0))), (.v (.int .u8 (0))), (.v (.int .u8 (0))), (.v (.int .u8 (0)))], [(0, 2), (2, 2), (4, 2), (6, 2), (8, 2), (10, 2), (12, 2), (14, 2), (16, 2), (18, 2), (20, 2), (22, 2), (24, 2), (26, 2), (28, 2), (30, 2)])) := by kernel_rfl
theorem tk_95 : tk X.P 95 = (.map 9 4) := by kernel_rfl
theorem lay_95 : lay X.P 95 = (some (false, 1)) := by kernel_rfl
theorem sz_95 : AL.sz? X.P 95 = (some 1) := by kernel_rfl
theorem zc_95 : zC X.P 95 = (some [(.v (.map none))]) := by kernel_rfl
theorem mp_95 : mapT X.P 95 = (some (.str, (some (.v (.bool false))))) := by kernel_rfl
theorem tk_98 : tk X.P 98 = .func := by kernel_rfl
theorem lay_98 : lay X.P 98 = (some (false, 1)) := by kernel_rfl
theorem sz_98 : AL.sz? X.P 98 = (some 1) := by kernel_rfl
theorem zc_98 : zC X.P 98 = (some [(.v .nilFunc)]) := by kernel_rfl
theorem tk_103 : tk X.P 103 = (.int .i64) := by kernel_rfl
theorem lay_103 : lay X.P 103 = (some (false, 1)) := by kernel_rfl
theorem sz_103 : AL.sz? X.P 103 = (some 1) := by kernel_rfl
theorem zc_103 : zC X.P 103 = (some [(.v (.int .i64 (0)))]) := by kernel_rfl
theorem tk_112 : tk X.P 112 = (.int .u32) := by kernel_rfl
theorem lay_112 : lay X.P 112 = (some (false, 1)) := by kernel_rfl
theorem sz_112 : AL.sz? X.P 112 = (some 1) := by kernel_rfl
theorem zc_112 : zC X.P 112 = (some [(.v (.int .u32 (0)))]) := by kernel_rfl
theorem tk_114 : tk X.P 114 = (.int .u64) := by kernel_rfl
theorem lay_114 : lay X.P 114 = (some (false, 1)) := by kernel_rfl
theorem sz_114 : AL.sz? X.P 114 = (some 1) := by kernel_rfl
theorem zc_114 : zC X.P 114 = (some [(.v (.int .u64 (0)))]) := by kernel_rfl
theorem tk_122 : tk X.P 122 = (.int .u64) := by kernel_rfl
theorem lay_122 : lay X.P 122 = (some (false, 1)) := by kernel_rfl
theorem sz_122 : AL.sz? X.P 122 = (some 1) := by kernel_rfl
theorem zc_122 : zC X.P 122 = (some [(.v (.int .u64 (0)))]) := by kernel_rfl
theorem tk_126 : tk X.P 126 = .ptr := by kernel_rfl
theorem lay_126 : lay X.P 126 = (some (false, 1)) := by kernel_rfl
theorem sz_126 : AL.sz? X.P 126 = (some 1) := by kernel_rfl
theorem zc_126 : zC X.P 126 = (some [(.v (.pointer none))]) := by kernel_rfl
theorem us_2 : (X.P.underlying 2).isSome = true := by kernel_rfl
theorem us_3 : (X.P.underlying 3).isSome = true := by kernel_rfl
theorem us_4 : (X.P.underlying 4).isSome = true := by kernel_rfl
theorem us_5 : (X.P.underlying 5).isSome = true := by kernel_rfl
theorem us_9 : (X.P.underlying 9).isSome = true := by kernel_rfl
theorem us_12 : (X.P.underlying 12).isSome = true := by kernel_rfl
theorem us_22 : (X.P.underlying 22).isSome = true := by kernel_rfl
theorem us_23 : (X.P.underlying 23).isSome = true := by kernel_rfl
theorem us_25 : (X.P.underlying 25).isSome = true := by kernel_rfl
theorem us_27 : (X.P.underlying 27).isSome = true := by kernel_rfl
theorem us_28 : (X.P.underlying 28).isSome = true := by kernel_rfl
theorem us_31 : (X.P.underlying 31).isSome = true := by kernel_rfl
theorem us_35 : (X.P.underlying 35).isSome = true := by kernel_rfl
theorem us_38 : (X.P.underlying 38).isSome = true := by kernel_rfl
theorem us_43 : (X.P.underlying 43).isSome = true := by kernel_rfl
theorem us_49 : (X.P.underlying 49).isSome = true := by kernel_rfl
theorem us_53 : (X.P.underlying 53).isSome = true := by kernel_rfl
theorem us_55 : (X.P.underlying 55).isSome = true := by kernel_rfl
theorem us_70 : (X.P.underlying 70).isSome = true := by kernel_rfl
theorem us_72 : (X.P.underlying 72).isSome = true := by kernel_rfl
theorem us_75 : (X.P.underlying 75).isSome = true := by kernel_rfl
theorem us_83 : (X.P.underlying 83).isSome = true := by kernel_rfl
theorem us_89 : (X.P.underlying 89).isSome = true := by kernel_rfl
theorem us_91 : (X.P.underlying 91).isSome = true := by kernel_rfl
theorem us_93 : (X.P.underlying 93).isSome = true := by kernel_rfl
theorem us_94 : (X.P.underlying 94).isSome = true := by kernel_rfl
theorem us_95 : (X.P.underlying 95).isSome = true := by kernel_rfl
theorem us_98 : (X.P.underlying 98).isSome = true := by kernel_rfl
theorem us_103 : (X.P.underlying 103).isSome = true := by kernel_rfl
theorem us_112 : (X.P.underlying 112).isSome = true := by kernel_rfl
theorem us_114 : (X.P.underlying 114).isSome = true := by kernel_rfl
theorem us_122 : (X.P.underlying 122).isSome = true := by kernel_rfl
theorem us_126 : (X.P.underlying 126).isSome = true := by kernel_rfl
attribute [go_sem] tk_2 lay_2 sz_2 tk_3 lay_3 sz_3 tk_4 lay_4 sz_4 tk_5 lay_5 sz_5
attribute [go_sem] tk_9 lay_9 sz_9 tk_12 lay_12 sz_12 tk_22 lay_22 sz_22 tk_23 lay_23 sz_23
attribute [go_sem] tk_25 lay_25 sz_25 bt_25 tk_27 lay_27 sz_27 tk_28 lay_28 sz_28 tk_31 lay_31
attribute [go_sem] sz_31 tk_35 lay_35 sz_35 tk_38 lay_38 sz_38 bt_38 tk_43 lay_43 sz_43 tk_49
attribute [go_sem] lay_49 sz_49 bt_49 tk_53 lay_53 sz_53 mp_53 tk_55 lay_55 sz_55 bt_55 tk_70
attribute [go_sem] lay_70 sz_70 tk_72 lay_72 sz_72 tk_75 lay_75 sz_75 tk_83 lay_83 sz_83 tk_89
attribute [go_sem] lay_89 sz_89 tk_91 lay_91 sz_91 bt_91 tk_93 lay_93 sz_93 bt_93 tk_94 lay_94
attribute [go_sem] sz_94 bt_94 tk_95 lay_95 sz_95 mp_95 tk_98 lay_98 sz_98 tk_103 lay_103 sz_103
attribute [go_sem] tk_112 lay_112 sz_112 tk_114 lay_114 sz_114 tk_122 lay_122 sz_122 tk_126 lay_126 sz_126
attribute [go_sem] us_2 us_3 us_4 us_5 us_9 us_12 us_22 us_23 us_25 us_27 us_28 us_31
attribute [go_sem] us_35 us_38 us_43 us_49 us_53 us_55 us_70 us_72 us_75 us_83 us_89 us_91
attribute [go_sem] us_93 us_94 us_95 us_98 us_103 us_112 us_114 us_122 us_126

end Go.Proofs.YtpdfgmedbphmkaaGreatDoor
