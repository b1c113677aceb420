/-
  The facts of this program's types, in short: each by the kernel's own reckoning. Printed by a program.
-/
import Derived.Test.YtniaafncmnilgaaGreatDoorProg
import Derived.Test.YtniaafncmnilgaaGreatDoorAL2
import Derived.Lib.ValidLaws
import Derived.KernelRfl
namespace Go.Proofs.YtniaafncmnilgaaGreatDoor
open Go Go.AL

/-- the package-level variables that the library reads: strings.Index's bound, and utf8's two tables -/
noncomputable def X : Ctx := ⟨Tryz.prog, fun F => (∃ m, F ⟨2, 0, none⟩ (.int .i64 m)) ∧ (∀ c, c < 256 → F ⟨0, c, none⟩ (.int .u8 (Lib.firstT c))) ∧ (∀ i, i < 16 → F ⟨1, 2 * i, none⟩ (.int .u8 (Lib.accLo i)) ∧ F ⟨1, 2 * i + 1, none⟩ (.int .u8 (Lib.accHi i))),
  fun _ _ h ⟨⟨m, k⟩, k1, k2⟩ => ⟨⟨m, h _ _ k⟩, fun c hc => h _ _ (k1 c hc), fun i hi => ⟨h _ _ (k2 i hi).1, h _ _ (k2 i hi).2⟩⟩, False⟩


theorem mixed : X.P.follows .mixedOrders = true := by kernel_rfl
theorem tk_2 : tk X.P 2 = (.int .i64) := by kernel_rfl
theorem lay_2 : lay X.P 2 = (some (false, 1)) := by kernel_rfl
theorem sz_2 : AL.sz? X.P 2 = (some 1) := by kernel_rfl
theorem zc_2 : zC X.P 2 = (some [(.v (.int .i64 (0)))]) := by kernel_rfl
theorem tk_3 : tk X.P 3 = (.int .i64) := by kernel_rfl
theorem lay_3 : lay X.P 3 = (some (false, 1)) := by kernel_rfl
theorem sz_3 : AL.sz? X.P 3 = (some 1) := by kernel_rfl
theorem zc_3 : zC X.P 3 = (some [(.v (.int .i64 (0)))]) := by kernel_rfl
theorem tk_4 : tk X.P 4 = .bool := by kernel_rfl
theorem lay_4 : lay X.P 4 = (some (false, 1)) := by kernel_rfl
theorem sz_4 : AL.sz? X.P 4 = (some 1) := by kernel_rfl
theorem zc_4 : zC X.P 4 = (some [(.v (.bool false))]) := by kernel_rfl
theorem tk_5 : tk X.P 5 = (.int .u8) := by kernel_rfl
theorem lay_5 : lay X.P 5 = (some (false, 1)) := by kernel_rfl
theorem sz_5 : AL.sz? X.P 5 = (some 1) := by kernel_rfl
theorem zc_5 : zC X.P 5 = (some [(.v (.int .u8 (0)))]) := by kernel_rfl
theorem tk_9 : tk X.P 9 = .str := by kernel_rfl
theorem lay_9 : lay X.P 9 = (some (false, 1)) := by kernel_rfl
theorem sz_9 : AL.sz? X.P 9 = (some 1) := by kernel_rfl
theorem zc_9 : zC X.P 9 = (some [(.s [])]) := by kernel_rfl
theorem tk_12 : tk X.P 12 = (.int .u64) := by kernel_rfl
theorem lay_12 : lay X.P 12 = (some (false, 1)) := by kernel_rfl
theorem sz_12 : AL.sz? X.P 12 = (some 1) := by kernel_rfl
theorem zc_12 : zC X.P 12 = (some [(.v (.int .u64 (0)))]) := by kernel_rfl
theorem tk_22 : tk X.P 22 = (.sl 9 (some 1)) := by kernel_rfl
theorem lay_22 : lay X.P 22 = (some (false, 1)) := by kernel_rfl
theorem sz_22 : AL.sz? X.P 22 = (some 1) := by kernel_rfl
theorem zc_22 : zC X.P 22 = (some [(.sl true [])]) := by kernel_rfl
theorem el_22 : elT X.P 22 = (some (9, (1, 16))) := by kernel_rfl
theorem tk_23 : tk X.P 23 = (.sl 25 (some 5)) := by kernel_rfl
theorem lay_23 : lay X.P 23 = (some (false, 1)) := by kernel_rfl
theorem sz_23 : AL.sz? X.P 23 = (some 1) := by kernel_rfl
theorem zc_23 : zC X.P 23 = (some [(.sl true [])]) := by kernel_rfl
theorem el_23 : elT X.P 23 = (some (25, (5, 80))) := by kernel_rfl
theorem tk_25 : tk X.P 25 = (.st [(some (0, (1, false))), (some (1, (1, false))), (some (2, (1, false))), (some (3, (1, false))), (some (4, (1, false)))]) := by kernel_rfl
theorem lay_25 : lay X.P 25 = (some (true, 5)) := by kernel_rfl
theorem sz_25 : AL.sz? X.P 25 = (some 5) := by kernel_rfl
theorem zc_25 : zC X.P 25 = (some [(.v (.int .i64 (0))), (.v (.int .i64 (0))), (.s []), (.sl true []), (.sl true [])]) := by kernel_rfl
theorem bt_25 : buildT X.P 25 = (some ([(.v (.int .i64 (0))), (.v (.int .i64 (0))), (.s []), (.sl true []), (.sl true [])], [(0, 1), (1, 1), (2, 1), (3, 1), (4, 1)])) := by kernel_rfl
theorem tk_26 : tk X.P 26 = .func := by kernel_rfl
theorem lay_26 : lay X.P 26 = (some (false, 1)) := by kernel_rfl
theorem sz_26 : AL.sz? X.P 26 = (some 1) := by kernel_rfl
theorem zc_26 : zC X.P 26 = (some [(.v .nilFunc)]) := by kernel_rfl
theorem tk_27 : tk X.P 27 = (.sl 58 (some 2)) := by kernel_rfl
theorem lay_27 : lay X.P 27 = (some (false, 1)) := by kernel_rfl
theorem sz_27 : AL.sz? X.P 27 = (some 1) := by kernel_rfl
theorem zc_27 : zC X.P 27 = (some [(.sl true [])]) := by kernel_rfl
theorem el_27 : elT X.P 27 = (some (58, (2, 24))) := by kernel_rfl
theorem tk_29 : tk X.P 29 = (.st [(some (0, (1, false))), (some (1, (1, false))), (some (2, (1, false))), (some (3, (1, false))), (some (4, (1, false))), (some (5, (1, false))), (some (6, (1, false))), (some (7, (1, false))), (some (8, (1, false)))]) := by kernel_rfl
theorem lay_29 : lay X.P 29 = (some (true, 9)) := by kernel_rfl
theorem sz_29 : AL.sz? X.P 29 = (some 9) := by kernel_rfl
theorem zc_29 : zC X.P 29 = (some [(.v (.int .i64 (0))), (.v (.int .i64 (0))), (.v (.int .i64 (0))), (.v (.int .i64 (0))), (.v (.int .i64 (0))), (.v (.int .i64 (0))), (.v (.int .i64 (0))), (.sl true []), (.sl true [])]) := by kernel_rfl
theorem bt_29 : buildT X.P 29 = (some ([(.v (.int .i64 (0))), (.v (.int .i64 (0))), (.v (.int .i64 (0))), (.v (.int .i64 (0))), (.v (.int .i64 (0))), (.v (.int .i64 (0))), (.v (.int .i64 (0))), (.sl true []), (.sl true [])], [(0, 1), (1, 1), (2, 1), (3, 1), (4, 1), (5, 1), (6, 1), (7, 1), (8, 1)])) := by kernel_rfl
theorem tk_30 : tk X.P 30 = (.int .i64) := by kernel_rfl
theorem lay_30 : lay X.P 30 = (some (false, 1)) := by kernel_rfl
theorem sz_30 : AL.sz? X.P 30 = (some 1) := by kernel_rfl
theorem zc_30 : zC X.P 30 = (some [(.v (.int .i64 (0)))]) := by kernel_rfl
theorem tk_35 : tk X.P 35 = (.sl 88 (some 2)) := by kernel_rfl
theorem lay_35 : lay X.P 35 = (some (false, 1)) := by kernel_rfl
theorem sz_35 : AL.sz? X.P 35 = (some 1) := by kernel_rfl
theorem zc_35 : zC X.P 35 = (some [(.sl true [])]) := by kernel_rfl
theorem el_35 : elT X.P 35 = (some (88, (2, 32))) := by kernel_rfl
theorem tk_37 : tk X.P 37 = (.st [(some (0, (1, false))), (some (1, (1, false))), (some (2, (1, false))), (some (3, (1, false))), (some (4, (1, false))), (some (5, (5, true))), (some (10, (1, false))), (some (11, (1, false))), (some (12, (1, false))), (some (13, (1, false))), (some (14, (1, false))), (some (15, (1, false)))]) := by kernel_rfl
theorem lay_37 : lay X.P 37 = (some (true, 16)) := by kernel_rfl
theorem sz_37 : AL.sz? X.P 37 = (some 16) := by kernel_rfl
theorem zc_37 : zC X.P 37 = (some [(.s []), (.s []), (.s []), (.v (.bool false)), (.s []), (.v (.int .i64 (0))), (.v (.int .i64 (0))), (.s []), (.sl true []), (.sl true []), (.sl true []), (.sl true []), (.v (.int .i64 (0))), (.v (.int .i64 (0))), (.s []), (.sl true [])]) := by kernel_rfl
theorem bt_37 : buildT X.P 37 = (some ([(.s []), (.s []), (.s []), (.v (.bool false)), (.s []), (.v (.int .i64 (0))), (.v (.int .i64 (0))), (.s []), (.sl true []), (.sl true []), (.sl true []), (.sl true []), (.v (.int .i64 (0))), (.v (.int .i64 (0))), (.s []), (.sl true [])], [(0, 1), (1, 1), (2, 1), (3, 1), (4, 1), (5, 5), (10, 1), (11, 1), (12, 1), (13, 1), (14, 1), (15, 1)])) := by kernel_rfl
theorem tk_42 : tk X.P 42 = .ptr := by kernel_rfl
theorem lay_42 : lay X.P 42 = (some (false, 1)) := by kernel_rfl
theorem sz_42 : AL.sz? X.P 42 = (some 1) := by kernel_rfl
theorem zc_42 : zC X.P 42 = (some [(.v (.pointer none))]) := by kernel_rfl
theorem tk_43 : tk X.P 43 = (.map 9 25) := by kernel_rfl
theorem lay_43 : lay X.P 43 = (some (false, 1)) := by kernel_rfl
theorem sz_43 : AL.sz? X.P 43 = (some 1) := by kernel_rfl
theorem zc_43 : zC X.P 43 = (some [(.v (.map none))]) := by kernel_rfl
theorem mp_43 : mapT X.P 43 = (some (.str, (some (.agg [(.v (.int .i64 (0))), (.v (.int .i64 (0))), (.s []), (.sl true []), (.sl true [])])))) := by kernel_rfl
theorem tk_45 : tk X.P 45 = (.st [(some (0, (1, false))), (some (1, (1, false)))]) := by kernel_rfl
theorem lay_45 : lay X.P 45 = (some (true, 2)) := by kernel_rfl
theorem sz_45 : AL.sz? X.P 45 = (some 2) := by kernel_rfl
theorem zc_45 : zC X.P 45 = (some [(.v (.map none)), (.v (.bool false))]) := by kernel_rfl
theorem bt_45 : buildT X.P 45 = (some ([(.v (.map none)), (.v (.bool false))], [(0, 1), (1, 1)])) := by kernel_rfl
theorem tk_48 : tk X.P 48 = .func := by kernel_rfl
theorem lay_48 : lay X.P 48 = (some (false, 1)) := by kernel_rfl
theorem sz_48 : AL.sz? X.P 48 = (some 1) := by kernel_rfl
theorem zc_48 : zC X.P 48 = (some [(.v .nilFunc)]) := by kernel_rfl
theorem tk_53 : tk X.P 53 = (.sl 2 (some 1)) := by kernel_rfl
theorem lay_53 : lay X.P 53 = (some (false, 1)) := by kernel_rfl
theorem sz_53 : AL.sz? X.P 53 = (some 1) := by kernel_rfl
theorem zc_53 : zC X.P 53 = (some [(.sl true [])]) := by kernel_rfl
theorem el_53 : elT X.P 53 = (some (2, (1, 8))) := by kernel_rfl
theorem tk_58 : tk X.P 58 = (.st [(some (0, (1, false))), (some (1, (1, false)))]) := by kernel_rfl
theorem lay_58 : lay X.P 58 = (some (true, 2)) := by kernel_rfl
theorem sz_58 : AL.sz? X.P 58 = (some 2) := by kernel_rfl
theorem zc_58 : zC X.P 58 = (some [(.s []), (.v (.int .i64 (0)))]) := by kernel_rfl
theorem bt_58 : buildT X.P 58 = (some ([(.s []), (.v (.int .i64 (0)))], [(0, 1), (1, 1)])) := by kernel_rfl
theorem tk_73 : tk X.P 73 = .func := by kernel_rfl
theorem lay_73 : lay X.P 73 = (some (false, 1)) := by kernel_rfl
theorem sz_73 : AL.sz? X.P 73 = (some 1) := by kernel_rfl
theorem zc_73 : zC X.P 73 = (some [(.v .nilFunc)]) := by kernel_rfl
theorem tk_76 : tk X.P 76 = (.arr 7 (some (1, false))) := by kernel_rfl
theorem lay_76 : lay X.P 76 = (some (true, 7)) := by kernel_rfl
theorem sz_76 : AL.sz? X.P 76 = (some 7) := by kernel_rfl
theorem zc_76 : zC X.P 76 = (some [(.v (.int .i64 (0))), (.v (.int .i64 (0))), (.v (.int .i64 (0))), (.v (.int .i64 (0))), (.v (.int .i64 (0))), (.v (.int .i64 (0))), (.v (.int .i64 (0)))]) := by kernel_rfl
theorem bt_76 : buildT X.P 76 = (some ([(.v (.int .i64 (0))), (.v (.int .i64 (0))), (.v (.int .i64 (0))), (.v (.int .i64 (0))), (.v (.int .i64 (0))), (.v (.int .i64 (0))), (.v (.int .i64 (0)))], [(0, 1), (1, 1), (2, 1), (3, 1), (4, 1), (5, 1), (6, 1)])) := by kernel_rfl
theorem tk_79 : tk X.P 79 = (.st [(some (0, (1, false))), (some (1, (1, false))), (some (2, (1, false))), (some (3, (1, false))), (some (4, (1, false)))]) := by kernel_rfl
theorem lay_79 : lay X.P 79 = (some (true, 5)) := by kernel_rfl
theorem sz_79 : AL.sz? X.P 79 = (some 5) := by kernel_rfl
theorem zc_79 : zC X.P 79 = (some [(.s []), (.v (.int .i64 (0))), (.v (.int .i64 (0))), (.v (.bool false)), (.v (.bool false))]) := by kernel_rfl
theorem bt_79 : buildT X.P 79 = (some ([(.s []), (.v (.int .i64 (0))), (.v (.int .i64 (0))), (.v (.bool false)), (.v (.bool false))], [(0, 1), (1, 1), (2, 1), (3, 1), (4, 1)])) := by kernel_rfl
theorem tk_80 : tk X.P 80 = .func := by kernel_rfl
theorem lay_80 : lay X.P 80 = (some (false, 1)) := by kernel_rfl
theorem sz_80 : AL.sz? X.P 80 = (some 1) := by kernel_rfl
theorem zc_80 : zC X.P 80 = (some [(.v .nilFunc)]) := by kernel_rfl
theorem tk_88 : tk X.P 88 = (.st [(some (0, (1, false))), (some (1, (1, false)))]) := by kernel_rfl
theorem lay_88 : lay X.P 88 = (some (true, 2)) := by kernel_rfl
theorem sz_88 : AL.sz? X.P 88 = (some 2) := by kernel_rfl
theorem zc_88 : zC X.P 88 = (some [(.s []), (.s [])]) := by kernel_rfl
theorem bt_88 : buildT X.P 88 = (some ([(.s []), (.s [])], [(0, 1), (1, 1)])) := by kernel_rfl
theorem tk_89 : tk X.P 89 = (.sl 5 (some 1)) := by kernel_rfl
theorem lay_89 : lay X.P 89 = (some (false, 1)) := by kernel_rfl
theorem sz_89 : AL.sz? X.P 89 = (some 1) := by kernel_rfl
theorem zc_89 : zC X.P 89 = (some [(.sl true [])]) := by kernel_rfl
theorem el_89 : elT X.P 89 = (some (5, (1, 1))) := by kernel_rfl
theorem tk_93 : tk X.P 93 = (.sl 3 (some 1)) := by kernel_rfl
theorem lay_93 : lay X.P 93 = (some (false, 1)) := by kernel_rfl
theorem sz_93 : AL.sz? X.P 93 = (some 1) := by kernel_rfl
theorem zc_93 : zC X.P 93 = (some [(.sl true [])]) := by kernel_rfl
theorem el_93 : elT X.P 93 = (some (3, (1, 8))) := by kernel_rfl
theorem tk_97 : tk X.P 97 = .func := by kernel_rfl
theorem lay_97 : lay X.P 97 = (some (false, 1)) := by kernel_rfl
theorem sz_97 : AL.sz? X.P 97 = (some 1) := by kernel_rfl
theorem zc_97 : zC X.P 97 = (some [(.v .nilFunc)]) := by kernel_rfl
theorem tk_99 : tk X.P 99 = (.int .u64) := by kernel_rfl
theorem lay_99 : lay X.P 99 = (some (false, 1)) := by kernel_rfl
theorem sz_99 : AL.sz? X.P 99 = (some 1) := by kernel_rfl
theorem zc_99 : zC X.P 99 = (some [(.v (.int .u64 (0)))]) := by kernel_rfl
theorem tk_102 : tk X.P 102 = (.sl 4 (some 1)) := by kernel_rfl
theorem lay_102 : lay X.P 102 = (some (false, 1)) := by kernel_rfl
theorem sz_102 : AL.sz? X.P 102 = (some 1) := by kernel_rfl
theorem zc_102 : zC X.P 102 = (some [(.sl true [])]) := by kernel_rfl
theorem el_102 : elT X.P 102 = (some (4, (1, 1))) := by kernel_rfl
theorem tk_106 : tk X.P 106 = .func := by kernel_rfl
theorem lay_106 : lay X.P 106 = (some (false, 1)) := by kernel_rfl
theorem sz_106 : AL.sz? X.P 106 = (some 1) := by kernel_rfl
theorem zc_106 : zC X.P 106 = (some [(.v .nilFunc)]) := by kernel_rfl
theorem tk_109 : tk X.P 109 = (.sl 27 (some 1)) := by kernel_rfl
theorem lay_109 : lay X.P 109 = (some (false, 1)) := by kernel_rfl
theorem sz_109 : AL.sz? X.P 109 = (some 1) := by kernel_rfl
theorem zc_109 : zC X.P 109 = (some [(.sl true [])]) := by kernel_rfl
theorem el_109 : elT X.P 109 = (some (27, (1, 24))) := by kernel_rfl
theorem tk_113 : tk X.P 113 = (.arr 256 (some (1, false))) := by kernel_rfl
theorem lay_113 : lay X.P 113 = (some (true, 256)) := by kernel_rfl
theorem sz_113 : AL.sz? X.P 113 = (some 256) := by kernel_rfl
theorem zc_113 : zC X.P 113 = (some [(.v (.int .u8 (0))), (.v (.int .u8 (0))), (.v (.int .u8 (0))), (.v (.int .u8 (0))), (.v (.int .u8 (0))), (.v (.int .u8 (0))), (.v (.int .u8 (0))), (.v (.int .u8 (0))), (.v (.int .u8 (0))), (.v (.int .u8 (0))), (.v (.int .u8 (0))), (.v (.int .u8 (0))), (.v (.int .u8 (0))), (.v (.int .u8 (0))), (.v (.int .u8 (0))), (.v (.int .u8 (0))), (.v (.int .u8 (0))), (.v (.int .u8 (0))), (.v (.int .u8 (0))), (.v (.int .u8 (0))), (.v (.int .u8 (0))), (.v (.int .u8 (0))), (.v (.int .u8 (0))), (.v (.int .u8 (0))), (.v (.int .u8 (0))), (.v (.int .u8 (0))), (.v (.int .u8 (0))), (.v (.int .u8 (0))), (.v (.int .u8 (0))), (.v (.int .u8 (0))), (.v (.int .u8 (0))), (.v (.int .u8 (0))), (.v (.int .u8 (0))), (.v (.int .u8 (0))), (.v (.int .u8 (0))), (.v (.int .u8 (0))), (.v (.int .u8 (0))), (.v (.int .u8 (0))), (.v (.int .u8 (0))), (.v (.int .u8 (0))), (.v (.int .u8 (0))), (.v (.int .u8 (0))), (.v (.int .u8 (0))), (.v (.int .u8 (0))), (.v (.int .u8 (0))), (.v (.int .u8 (0))), (.v (.int .u8 (0))), (.v (.int .u8 (0))), (.v (.int .u8 (0))), (.v (.int .u8 (0))), (.v (.int .u8 (0))), (.v (.int .u8 (0))), (.v (.int .u8 (0))), (.v (.int .u8 (0))), (.v (.int .u8 (0))), (.v (.int .u8 (0))), (.v (.int .u8 (0))), (.v (.int .u8 (0))), (.v (.int .u8 (0))), (.v (.int .u8 (0))), (.v (.int .u8 (0))), (.v (.int .u8 (0))), (.v (.int .u8 (0))), (.v (.int .u8 (0))), (.v (.int .u8 (0))), (.v (.int .u8 (0))), (.v (.int .u8 (0))), (.v (.int .u8 (0))), (.v (.int .u8 (0))), (.v (.int .u8 (0))), (.v (.int .u8 (0))), (.v (.int .u8 (0))), (.v (.int .u8 (0))), (.v (.int .u8 (0))), (.v (.int .u8 (0))), (.v (.int .u8 (0))), (.v (.int .u8 (0))), (.v (.int .u8 (0))), (.v (.int .u8 (0))), (.v (.int .u8 (0))), (.v (.int .u8 (0))), (.v (.int .u8 (0))), (.v (.int .u8 (0))), (.v (.int .u8 (0))), (.v (.int .u8 (0))), (.v (.int .u8 (0))), (.v (.int .u8 (0))), (.v (.int .u8 (0))), (.v (.int .u8 (0))), (.v (.int .u8 (0))), (.v (.int .u8 (0))), (.v (.int .u8 (0))), (.v (.int .u8 (0))), (.v (.int .u8 (0))), (.v (.int .u8 (0))), (.v (.int .u8 (0))), (.v (.int .u8 (0))), (.v (.int .u8 (0))), (.v (.int .u8 (0))), (.v (.int .u8 (0))), (.v (.int .u8 (0))), (.v (.int .u8 (0))), (.v (.int .u8 (0))), (.v (.int .u8 (0))), (.v (.int .u8 (0))), (.v (.int .u8 (0))), (.v (.int .u8 (0))), (.v (.int .u8 (0))), (.v (.int .u8 (0))), (.v (.int .u8 (0))), (.v (.int .u8 (0))), (.v (.int .u8 (0))), (.v (.int .u8 (0))), (.v (.int .u8 (0))), (.v (.int .u8 (0))), (.v (.int .u8 (0))), (.v (.int .u8 (0))), (.v (.int .u8 (0))), (.v (.int .u8 (0))), (.v (.int .u8 (0))), (.v (.int .u8 (0))), (.v (.int .u8 (0))), (.v (.int .u8 (0))), (.v (.int .u8 (0))), (.v (.int .u8 (0))), (.v (.int .u8 (0))), (.v (.int .u8 (0))), (.v (.int .u8 (0))), (.v (.int .u8 (0))), (.v (.int .u8 (0))), (.v (.int .u8 (0))), (.v (.int .u8 (0))), (.v (.int .u8 (0))), (.v (.int .u8 (0))), (.v (.int .u8 (0))), (.v (.int .u8 (0))), (.v (.int .u8 (0))), (.v (.int .u8 (0))), (.v (.int .u8 (0))), (.v (.int .u8 (0))), (.v (.int .u8 (0))), (.v (.int .u8 (0))), (.v (.int .u8 (0))), (.v (.int .u8 (0))), (.v (.int .u8 (0))), (.v (.int .u8 (0))), (.v (.int .u8 (0))), (.v (.int .u8 (0))), (.v (.int .u8 (0))), (.v (.int .u8 (0))), (.v (.int .u8 (0))), (.v (.int .u8 (0))), (.v (.int .u8 (0))), (.v (.int .u8 (0))), (.v (.int .u8 (0))), (.v (.int .u8 (0))), (.v (.int .u8 (0))), (.v (.int .u8 (0))), (.v (.int .u8 (0))), (.v (.int .u8 (0))), (.v (.int .u8 (0))), (.v (.int .u8 (0))), (.v (.int .u8 (0))), (.v (.int .u8 (0))), (.v (.int .u8 (0))), (.v (.int .u8 (0))), (.v (.int .u8 (0))), (.v (.int .u8 (0))), (.v (.int .u8 (0))), (.v (.int .u8 (0))), (.v (.int .u8 (0))), (.v (.int .u8 (0))), (.v (.int .u8 (0))), (.v (.int .u8 (0))), (.v (.int .u8 (0))), (.v (.int .u8 (0))), (.v (.int .u8 (0))), (.v (.int .u8 (0))), (.v (.int .u8 (0))), (.v (.int .u8 (0))), (.v (.int .u8 (0))), (.v (.int .u8 (0))), (.v (.int .u8 (0))), (.v (.int .u8 (0))), (.v (.int .u8 (0))), (.v (.int .u8 (0))), (.v (.int .u8 (0))), (.v (.int .u8 (0))), (.v (.int .u8 (0))), (.v (.int .u8 (0))), (.v (.int .u8 (0))), (.v (.int .u8 (0))), (.v (.int .u8 (0))), (.v (.int .u8 (0))), (.v (.int .u8 (0))), (.v (.int .u8 (0))), (.v (.int .u8 (0))), (.v (.int .u8 (0))), (.v (.int .u8 (0))), (.v (.int .u8 (0))), (.v (.int .u8 (0))), (.v (.int .u8 (0))), (.v (.int .u8 (0))), (.v (.int .u8 (0))), (.v (.int .u8 (0))), (.v (.int .u8 (0))), (.v (.int .u8 (0))), (.v (.int .u8 (0))), (.v (.int .u8 (0))), (.v (.int .u8 (0))), (.v (.int .u8 (0))), (.v (.int .u8 (0))), (.v (.int .u8 (0))), (.v (.int .u8 (0))), (.v (.int .u8 (0))), (.v (.int .u8 (0))), (.v (.int .u8 (0))), (.v (.int .u8 (0))), (.v (.int .u8 (0))), (.v (.int .u8 (0))), (.v (.int .u8 (0))), (.v (.int .u8 (0))), (.v (.int .u8 (0))), (.v (.int .u8 (0))), (.v (.int .u8 (0))), (.v (.int .u8 (0))), (.v (.int .u8 (0))), (.v (.int .u8 (0))), (.v (.int .u8 (0))), (.v (.int .u8 (0))), (.v (.int .u8 (0))), (.v (.int .u8 (0))), (.v (.int .u8 (0))), (.v (.int .u8 (0))), (.v (.int .u8 (0))), (.v (.int .u8 (0))), (.v (.int .u8 (0))), (.v (.int .u8 (0))), (.v (.int .u8 (0))), (.v (.int .u8 (0))), (.v (.int .u8 (0))), (.v (.int .u8 (0))), (.v (.int .u8 (0))), (.v (.int .u8 (0))), (.v (.int .u8 (0))), (.v (.int .u8 (0))), (.v (.int .u8 (0))), (.v (.int .u8 (0))), (.v (.int .u8 (0))), (.v (.int .u8 (0))), (.v (.int .u8 (0))), (.v (.int .u8 (0))), (.v (.int .u8 (0))), (.v (.int .u8 (0))), (.v (.int .u8 (0))), (.v (.int .u8 (0)))]) := by kernel_rfl
theorem bt_113 : buildT X.P 113 = (some ([(.v (.int .u8 (0))), (.v (.int .u8 (0))), (.v (.int .u8 (0))), (.v (.int .u8 (0))), (.v (.int .u8 (0))), (.v (.int .u8 (0))), (.v (.int .u8 (0))), (.v (.int .u8 (0))), (.v (.int .u8 (0))), (.v (.int .u8 (0))), (.v (.int .u8 (0))), (.v (.int .u8 (0))), (.v (.int .u8 (0))), (.v (.int .u8 (0))), (.v (.int .u8 (0))), (.v (.int .u8 (0))), (.v (.int .u8 (0))), (.v (.int .u8 (0))), (.v (.int .u8 (0))), (.v (.int .u8 (0))), (.v (.int .u8 (0))), (.v (.int .u8 (0))), (.v (.int .u8 (0))), (.v (.int .u8 (0))), (.v (.int .u8 (0))), (.v (.int .u8 (0))), (.v (.int .u8 (0))), (.v (.int .u8 (0))), (.v (.int .u8 (0))), (.v (.int .u8 (0))), (.v (.int .u8 (0))), (.v (.int .u8 (0))), (.v (.int .u8 (0))), (.v (.int .u8 (0))), (.v (.int .u8 (0))), (.v (.int .u8 (0))), (.v (.int .u8 (0))), (.v (.int .u8 (0))), (.v (.int .u8 (0))), (.v (.int .u8 (0))), (.v (.int .u8 (0))), (.v (.int .u8 (0))), (.v (.int .u8 (0))), (.v (.int .u8 (0))), (.v (.int .u8 (0))), (.v (.int .u8 (0))), (.v (.int .u8 (0))), (.v (.int .u8 (0))), (.v (.int .u8 (0))), (.v (.int .u8 (0))), (.v (.int .u8 (0))), (.v (.int .u8 (0))), (.v (.int .u8 (0))), (.v (.int .u8 (0))), (.v (.int .u8 (0))), (.v (.int .u8 (0))), (.v (.int .u8 (0))), (.v (.int .u8 (0))), (.v (.int .u8 (0))), (.v (.int .u8 (0))), (.v (.int .u8 (0))), (.v (.int .u8 (0))), (.v (.int .u8 (0))), (.v (.int .u8 (0))), (.v (.int .u8 (0))), (.v (.int .u8 (0))), (.v (.int .u8 (0))), (.v (.int .u8 (0))), (.v (.int .u8 (0))), (.v (.int .u8 (0))), (.v (.int .u8 (0))), (.v (.int .u8 (0))), (.v (.int .u8 (0))), (.v (.int .u8 (0))), (.v (.int .u8 (0))), (.v (.int .u8 (0))), (.v (.int .u8 (0))), (.v (.int .u8 (0))), (.v (.int .u8 (0))), (.v (.int .u8 (0))), (.v (.int .u8 (0))), (.v (.int .u8 (0))), (.v (.int .u8 (0))), (.v (.int .u8 (0))), (.v (.int .u8 (0))), (.v (.int .u8 (0))), (.v (.int .u8 (0))), (.v (.int .u8 (0))), (.v (.int .u8 (0))), (.v (.int .u8 (0))), (.v (.int .u8 (0))), (.v (.int .u8 (0))), (.v (.int .u8 (0))), (.v (.int .u8 (0))), (.v (.int .u8 (0))), (.v (.int .u8 (0))), (.v (.int .u8 (0))), (.v (.int .u8 (0))), (.v (.int .u8 (0))), (.v (.int .u8 (0))), (.v (.int .u8 (0))), (.v (.int .u8 (0))), (.v (.int .u8 (0))), (.v (.int .u8 (0))), (.v (.int .u8 (0))), (.v (.int .u8 (0))), (.v (.int .u8 (0))), (.v (.int .u8 (0))), (.v (.int .u8 (0))), (.v (.int .u8 (0))), (.v (.int .u8 (0))), (.v (.int .u8 (0))), (.v (.int .u8 (0))), (.v (.int .u8 (0))), (.v (.int .u8 (0))), (.v (.int .u8 (0))), (.v (.int .u8 (0))), (.v (.int .u8 (0))), (.v (.int .u8 (0))), (.v (.int .u8 (0))), (.v (.int .u8 (0))), (.v (.int .u8 (0))), (.v (.int .u8 (0))), (.v (.int .u8 (0))), (.v (.int .u8 (0))), (.v (.int .u8 (0))), (.v (.int .u8 (0))), (.v (.int .u8 (0))), (.v (.int .u8 (0))), (.v (.int .u8 (0))), (.v (.int .u8 (0))), (.v (.int .u8 (0))), (.v (.int .u8 (0))), (.v (.int .u8 (0))), (.v (.int .u8 (0))), (.v (.int .u8 (0))), (.v (.int .u8 (0))), (.v (.int .u8 (0))), (.v (.int .u8 (0))), (.v (.int .u8 (0))), (.v (.int .u8 (0))), (.v (.int .u8 (0))), (.v (.int .u8 (0))), (.v (.int .u8 (0))), (.v (.int .u8 (0))), (.v (.int .u8 (0))), (.v (.int .u8 (0))), (.v (.int .u8 (0))), (.v (.int .u8 (0))), (.v (.int .u8 (0))), (.v (.int .u8 (0))), (.v (.int .u8 (0))), (.v (.int .u8 (0))), (.v (.int .u8 (0))), (.v (.int .u8 (0))), (.v (.int .u8 (0))), (.v (.int .u8 (0))), (.v (.int .u8 (0))), (.v (.int .u8 (0))), (.v (.int .u8 (0))), (.v (.int .u8 (0))), (.v (.int .u8 (0))), (.v (.int .u8 (0))), (.v (.int .u8 (0))), (.v (.int .u8 (0))), (.v (.int .u8 (0))), (.v (.int .u8 (0))), (.v (.int .u8 (0))), (.v (.int .u8 (0))), (.v (.int .u8 (0))), (.v (.int .u8 (0))), (.v (.int .u8 (0))), (.v (.int .u8 (0))), (.v (.int .u8 (0))), (.v (.int .u8 (0))), (.v (.int .u8 (0))), (.v (.int .u8 (0))), (.v (.int .u8 (0))), (.v (.int .u8 (0))), (.v (.int .u8 (0))), (.v (.int .u8 (0))), (.v (.int .u8 (0))), (.v (.int .u8 (0))), (.v (.int .u8 (0))), (.v (.int .u8 (0))), (.v (.int .u8 (0))), (.v (.int .u8 (0))), (.v (.int .u8 (0))), (.v (.int .u8 (0))), (.v (.int .u8 (0))), (.v (.int .u8 (0))), (.v (.int .u8 (0))), (.v (.int .u8 (0))), (.v (.int .u8 (0))), (.v (.int .u8 (0))), (.v (.int .u8 (0))), (.v (.int .u8 (0))), (.v (.int .u8 (0))), (.v (.int .u8 (0))), (.v (.int .u8 (0))), (.v (.int .u8 (0))), (.v (.int .u8 (0))), (.v (.int .u8 (0))), (.v (.int .u8 (0))), (.v (.int .u8 (0))), (.v (.int .u8 (0))), (.v (.int .u8 (0))), (.v (.int .u8 (0))), (.v (.int .u8 (0))), (.v (.int .u8 (0))), (.v (.int .u8 (0))), (.v (.int .u8 (0))), (.v (.int .u8 (0))), (.v (.int .u8 (0))), (.v (.int .u8 (0))), (.v (.int .u8 (0))), (.v (.int .u8 (0))), (.v (.int .u8 (0))), (.v (.int .u8 (0))), (.v (.int .u8 (0))), (.v (.int .u8 (0))), (.v (.int .u8 (0))), (.v (.int .u8 (0))), (.v (.int .u8 (0))), (.v (.int .u8 (0))), (.v (.int .u8 (0))), (.v (.int .u8 (0))), (.v (.int .u8 (0))), (.v (.int .u8 (0))), (.v (.int .u8 (0))), (.v (.int .u8 (0))), (.v (.int .u8 (0))), (.v (.int .u8 (0))), (.v (.int .u8 (0))), (.v (.int .u8 (0))), (.v (.int .u8 (0))), (.v (.int .u8 (0))), (.v (.int .u8 (0))), (.v (.int .u8 (0))), (.v (.int .u8 (0))), (.v (.int .u8 (0))), (.v (.int .u8 (0))), (.v (.int .u8 (0))), (.v (.int .u8 (0))), (.v (.int .u8 (0))), (.v (.int .u8 (0))), (.v (.int .u8 (0))), (.v (.int .u8 (0))), (.v (.int .u8 (0))), (.v (.int .u8 (0))), (.v (.int .u8 (0))), (.v (.int .u8 (0))), (.v (.int .u8 (0))), (.v (.int .u8 (0))), (.v (.int .u8 (0))), (.v (.int .u8 (0)))], [(0, 1), (1, 1), (2, 1), (3, 1), (4, 1), (5, 1), (6, 1), (7, 1), (8, 1), (9, 1), (10, 1), (11, 1), (12, 1), (13, 1), (14, 1), (15, 1), (16, 1), (17, 1), (18, 1), (19, 1), (20, 1), (21, 1), (22, 1), (23, 1), (24, 1), (25, 1), (26, 1), (27, 1), (28, 1), (29, 1), (30, 1), (31, 1), (32, 1), (33, 1), (34, 1), (35, 1), (36, 1), (37, 1), (38, 1), (39, 1), (40, 1), (41, 1), (42, 1), (43, 1), (44, 1), (45, 1), (46, 1), (47, 1), (48, 1), (49, 1), (50, 1), (51, 1), (52, 1), (53, 1), (54, 1), (55, 1), (56, 1), (57, 1), (58, 1), (59, 1), (60, 1), (61, 1), (62, 1), (63, 1), (64, 1), (65, 1), (66, 1), (67, 1), (68, 1), (69, 1), (70, 1), (71, 1), (72, 1), (73, 1), (74, 1), (75, 1), (76, 1), (77, 1), (78, 1), (79, 1), (80, 1), (81, 1), (82, 1), (83, 1), (84, 1), (85, 1), (86, 1), (87, 1), (88, 1), (89, 1), (90, 1), (91, 1), (92, 1), (93, 1), (94, 1), (95, 1), (96, 1), (97, 1), (98, 1), (99, 1), (100, 1), (101, 1), (102, 1), (103, 1), (104, 1), (105, 1), (106, 1), (107, 1), (108, 1), (109, 1), (110, 1), (111, 1), (112, 1), (113, 1), (114, 1), (115, 1), (116, 1), (117, 1), (118, 1), (119, 1), (120, 1), (121, 1), (122, 1), (123, 1), (124, 1), (125, 1), (126, 1), (127, 1), (128, 1), (129, 1), (130, 1), (131, 1), (132, 1), (133, 1), (134, 1), (135, 1), (136, 1), (137, 1), (138, 1), (139, 1), (140, 1), (141, 1), (142, 1), (143, 1), (144, 1), (145, 1), (146, 1), (147, 1), (148, 1), (149, 1), (150, 1), (151, 1), (152, 1), (153, 1), (154, 1), (155, 1), (156, 1), (157, 1), (158, 1), (159, 1), (160, 1), (161, 1), (162, 1), (163, 1), (164, 1), (165, 1), (166, 1), (167, 1), (168, 1), (169, 1), (170, 1), (171, 1), (172, 1), (173, 1), (174, 1), (175, 1), (176, 1), (177, 1), (178, 1), (179, 1), (180, 1), (181, 1), (182, 1), (183, 1), (184, 1), (185, 1), (186, 1), (187, 1), (188, 1), (189, 1), (190, 1), (191, 1), (192, 1), (193, 1), (194, 1), (195, 1), (196, 1), (197, 1), (198, 1), (199, 1), (200, 1), (201, 1), (202, 1), (203, 1), (204, 1), (205, 1), (206, 1), (207, 1), (208, 1), (209, 1), (210, 1), (211, 1), (212, 1), (213, 1), (214, 1), (215, 1), (216, 1), (217, 1), (218, 1), (219, 1), (220, 1), (221, 1), (222, 1), (223, 1), (224, 1), (225, 1), (226, 1), (227, 1), (228, 1), (229, 1), (230, 1), (231, 1), (232, 1), (233, 1), (234, 1), (235, 1), (236, 1), (237, 1), (238, 1), (239, 1), (240, 1), (241, 1), (242, 1), (243, 1), (244, 1), (245, 1), (246, 1), (247, 1), (248, 1), (249, 1), (250, 1), (251, 1), (252, 1), (253, 1), (254, 1), (255, 1)])) := by kernel_rfl
theorem tk_115 : tk X.P 115 = (.st [(some (0, (1, false))), (some (1, (1, false)))]) := by kernel_rfl
theorem lay_115 : lay X.P 115 = (some (true, 2)) := by kernel_rfl
theorem sz_115 : AL.sz? X.P 115 = (some 2) := by kernel_rfl
theorem zc_115 : zC X.P 115 = (some [(.v (.int .u8 (0))), (.v (.int .u8 (0)))]) := by kernel_rfl
theorem bt_115 : buildT X.P 115 = (some ([(.v (.int .u8 (0))), (.v (.int .u8 (0)))], [(0, 1), (1, 1)])) := by kernel_rfl
theorem tk_116 : tk X.P 116 = (.arr 16 (some (2, true))) := by kernel_rfl
theorem lay_116 : lay X.P 116 = (some (true, 32)) := by kernel_rfl
theorem sz_116 : AL.sz? X.P 116 = (some 32) := by kernel_rfl
theorem zc_116 : zC X.P 116 = (some [(.v (.int .u8 (0))), (.v (.int .u8 (0))), (.v (.int .u8 (0))), (.v (.int .u8 (0))), (.v (.int .u8 (0))), (.v (.int .u8 (0))), (.v (.int .u8 (0))), (.v (.int .u8 (0))), (.v (.int .u8 (0))), (.v (.int .u8 (0))), (.v (.int .u8 (0))), (.v (.int .u8 (0))), (.v (.int .u8 (0))), (.v (.int .u8 (0))), (.v (.int .u8 (0))), (.v (.int .u8 (0))), (.v (.int .u8 (0))), (.v (.int .u8 (0))), (.v (.int .u8 (0))), (.v (.int .u8 (0))), (.v (.int .u8 (0))), (.v (.int .u8 (0))), (.v (.int .u8 (0))), (.v (.int .u8 (0))), (.v (.int .u8 (0))), (.v (.int .u8 (0))), (.v (.int .u8 (0))), (.v (.int .u8 (0))), (.v (.int .u8 (0))), (.v (.int .u8 (0))), (.v (.int .u8 (0))), (.v (.int .u8 (0)))]) := by kernel_rfl
theorem bt_116 : buildT X.P 116 = (some ([(.v (.int .u8 (0))), (.v (.int .u8 (0))), (.v (.int .u8 (0))), (.v (.int .u8 (0))), (.v (.int .u8 (0))), (.v (.int .u8 (0))), (.v (.int .u8 (0))), (.v (.int .u8 (0))), (.v (.int .u8 (0))), (.v (.int .u8 (0))), (.v (.int .u8 (0))), (.v (.int .u8 (0))), (.v (.int .u8 (0))), (.v (.int .u8 (0))), (.v (.int .u8 (0))), (.v (.int .u8 (0))), (.v (.int .u8 (0))), (.v (.int .u8 (0))), (.v (.int .u8 (0))), (.v (.int .u8 (0))), (.v (.int .u8 (0))), (.v (.int .u8 (0))), (.v (.int .u8 (0))), (.v (.int .u8 (0))), (.v (.int .u8 (0))), (.v (.int .u8 (0))), (.v (.int .u8 (0))), (.v (.int .u8 (0))), (.v (.int .u8 (0))), (.v (.int .u8 (0))), (.v (.int .u8 (0))), (.v (.int .u8 (0)))], [(0, 2), (2, 2), (4, 2), (6, 2), (8, 2), (10, 2), (12, 2), (14, 2), (16, 2), (18, 2), (20, 2), (22, 2), (24, 2), (26, 2), (28, 2), (30, 2)])) := by kernel_rfl
theorem tk_117 : tk X.P 117 = (.map 9 4) := by kernel_rfl
theorem lay_117 : lay X.P 117 = (some (false, 1)) := by kernel_rfl
theorem sz_117 : AL.sz? X.P 117 = (some 1) := by kernel_rfl
theorem zc_117 : zC X.P 117 = (some [(.v (.map none))]) := by kernel_rfl
theorem mp_117 : mapT X.P 117 = (some (.str, (some (.v (.bool false))))) := by kernel_rfl
theorem tk_120 : tk X.P 120 = (.int .u64) := by kernel_rfl
theorem lay_120 : lay X.P 120 = (some (false, 1)) := by kernel_rfl
theorem sz_120 : AL.sz? X.P 120 = (some 1) := by kernel_rfl
theorem zc_120 : zC X.P 120 = (some [(.v (.int .u64 (0)))]) := by kernel_rfl
theorem tk_122 : tk X.P 122 = (.int .i64) := by kernel_rfl
theorem lay_122 : lay X.P 122 = (some (false, 1)) := by kernel_rfl
theorem sz_122 : AL.sz? X.P 122 = (some 1) := by kernel_rfl
theorem zc_122 : zC X.P 122 = (some [(.v (.int .i64 (0)))]) := by kernel_rfl
theorem tk_130 : tk X.P 130 = (.int .u32) := by kernel_rfl
theorem lay_130 : lay X.P 130 = (some (false, 1)) := by kernel_rfl
theorem sz_130 : AL.sz? X.P 130 = (some 1) := by kernel_rfl
theorem zc_130 : zC X.P 130 = (some [(.v (.int .u32 (0)))]) := by kernel_rfl
theorem us_2 : (X.P.underlying 2).isSome = true := by kernel_rfl
theorem us_3 : (X.P.underlying 3).isSome = true := by kernel_rfl
theorem us_4 : (X.P.underlying 4).isSome = true := by kernel_rfl
theorem us_5 : (X.P.underlying 5).isSome = true := by kernel_rfl
theorem us_9 : (X.P.underlying 9).isSome = true := by kernel_rfl
theorem us_12 : (X.P.underlying 12).isSome = true := by kernel_rfl
theorem us_22 : (X.P.underlying 22).isSome = true := by kernel_rfl
theorem us_23 : (X.P.underlying 23).isSome = true := by kernel_rfl
theorem us_25 : (X.P.underlying 25).isSome = true := by kernel_rfl
theorem us_26 : (X.P.underlying 26).isSome = true := by kernel_rfl
theorem us_27 : (X.P.underlying 27).isSome = true := by kernel_rfl
theorem us_29 : (X.P.underlying 29).isSome = true := by kernel_rfl
theorem us_30 : (X.P.underlying 30).isSome = true := by kernel_rfl
theorem us_35 : (X.P.underlying 35).isSome = true := by kernel_rfl
theorem us_37 : (X.P.underlying 37).isSome = true := by kernel_rfl
theorem us_42 : (X.P.underlying 42).isSome = true := by kernel_rfl
theorem us_43 : (X.P.underlying 43).isSome = true := by kernel_rfl
theorem us_45 : (X.P.underlying 45).isSome = true := by kernel_rfl
theorem us_48 : (X.P.underlying 48).isSome = true := by kernel_rfl
theorem us_53 : (X.P.underlying 53).isSome = true := by kernel_rfl
theorem us_58 : (X.P.underlying 58).isSome = true := by kernel_rfl
theorem us_73 : (X.P.underlying 73).isSome = true := by kernel_rfl
theorem us_76 : (X.P.underlying 76).isSome = true := by kernel_rfl
theorem us_79 : (X.P.underlying 79).isSome = true := by kernel_rfl
theorem us_80 : (X.P.underlying 80).isSome = true := by kernel_rfl
theorem us_88 : (X.P.underlying 88).isSome = true := by kernel_rfl
theorem us_89 : (X.P.underlying 89).isSome = true := by kernel_rfl
theorem us_93 : (X.P.underlying 93).isSome = true := by kernel_rfl
theorem us_97 : (X.P.underlying 97).isSome = true := by kernel_rfl
theorem us_99 : (X.P.underlying 99).isSome = true := by kernel_rfl
theorem us_102 : (X.P.underlying 102).isSome = true := by kernel_rfl
theorem us_106 : (X.P.underlying 106).isSome = true := by kernel_rfl
theorem us_109 : (X.P.underlying 109).isSome = true := by kernel_rfl
theorem us_113 : (X.P.underlying 113).isSome = true := by kernel_rfl
theorem us_115 : (X.P.underlying 115).isSome = true := by kernel_rfl
theorem us_116 : (X.P.underlying 116).isSome = true := by kernel_rfl
theorem us_117 : (X.P.underlying 117).isSome = true := by kernel_rfl
theorem us_120 : (X.P.underlying 120).isSome = true := by kernel_rfl
theorem us_122 : (X.P.underlying 122).isSome = true := by kernel_rfl
theorem us_130 : (X.P.underlying 130).isSome = true := by kernel_rfl
attribute [go_sem] tk_2 lay_2 sz_2 tk_3 lay_3 sz_3 tk_4 lay_4 sz_4 tk_5 lay_5 sz_5
attribute [go_sem] tk_9 lay_9 sz_9 tk_12 lay_12 sz_12 tk_22 lay_22 sz_22 tk_23 lay_23 sz_23
attribute [go_sem] tk_25 lay_25 sz_25 bt_25 tk_26 lay_26 sz_26 tk_27 lay_27 sz_27 tk_29 lay_29
attribute [go_sem] sz_29 bt_29 tk_30 lay_30 sz_30 tk_35 lay_35 sz_35 tk_37 lay_37 sz_37 bt_37
attribute [go_sem] tk_42 lay_42 sz_42 tk_43 lay_43 sz_43 mp_43 tk_45 lay_45 sz_45 bt_45 tk_48
attribute [go_sem] lay_48 sz_48 tk_53 lay_53 sz_53 tk_58 lay_58 sz_58 bt_58 tk_73 lay_73 sz_73
attribute [go_sem] tk_76 lay_76 sz_76 bt_76 tk_79 lay_79 sz_79 bt_79 tk_80 lay_80 sz_80 tk_88
attribute [go_sem] lay_88 sz_88 bt_88 tk_89 lay_89 sz_89 tk_93 lay_93 sz_93 tk_97 lay_97 sz_97
attribute [go_sem] tk_99 lay_99 sz_99 tk_102 lay_102 sz_102 tk_106 lay_106 sz_106 tk_109 lay_109 sz_109
attribute [go_sem] tk_113 lay_113 sz_113 bt_113 tk_115 lay_115 sz_115 bt_115 tk_116 lay_116 sz_116 bt_116
attribute [go_sem] tk_117 lay_117 sz_117 mp_117 tk_120 lay_120 sz_120 tk_122 lay_122 sz_122 tk_130 lay_130
attribute [go_sem] sz_130 us_2 us_3 us_4 us_5 us_9 us_12 us_22 us_23 us_25 us_26 us_27
attribute [go_sem] us_29 us_30 us_35 us_37 us_42 us_43 us_45 us_48 us_53 us_58 us_73 us_76
attribute [go_sem] us_79 us_80 us_88 us_89 us_93 us_97 us_99 us_102 us_106 us_109 us_113 us_115
attribute [go_sem] us_116 us_117 us_120 us_122 us_130

end Go.Proofs.YtniaafncmnilgaaGreatDoor
