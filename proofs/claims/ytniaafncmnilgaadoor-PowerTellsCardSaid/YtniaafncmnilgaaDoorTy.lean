/-
  The facts of this program's types, in short: each by the kernel's own reckoning. Printed by a program.
-/
import Derived.Test.YtniaafncmnilgaaDoorProg
import Derived.Test.YtniaafncmnilgaaDoorAL2
import Derived.Lib.ValidLaws
import Derived.KernelRfl
namespace Go.Proofs.YtniaafncmnilgaaDoor
open Go Go.AL

/-- the package-level variables that the library reads: strings.Index's bound, and utf8's two tables -/
noncomputable def X : Ctx := ⟨Tryd.prog, fun F => (∃ m, F ⟨2, 0, none⟩ (.int .i64 m)) ∧ (∀ c, c < 256 → F ⟨0, c, none⟩ (.int .u8 (Lib.firstT c))) ∧ (∀ i, i < 16 → F ⟨1, 2 * i, none⟩ (.int .u8 (Lib.accLo i)) ∧ F ⟨1, 2 * i + 1, none⟩ (.int .u8 (Lib.accHi i))),
  fun _ _ h ⟨⟨m, k⟩, k1, k2⟩ => ⟨⟨m, h _ _ k⟩, fun c hc => h _ _ (k1 c hc), fun i hi => ⟨h _ _ (k2 i hi).1, h _ _ (k2 i hi).2⟩⟩, False⟩


theorem mixed : X.P.follows .mixedOrders = true := by kernel_rfl
theorem tk_2 : tk X.P 2 = (.int .i64) := by kernel_rfl
theorem lay_2 : lay X.P 2 = (some (false, 1)) := by kernel_rfl
theorem sz_2 : AL.sz? X.P 2 = (some 1) := by kernel_rfl
theorem zc_2 : zC X.P 2 = (some [(.v (.int .i64 (0)))]) := by kernel_rfl
theorem tk_3 : tk X.P 3 = (.int .i64) := by kernel_rfl
theorem lay_3 : lay X.P 3 = (some (false, 1)) := by kernel_rfl
theorem sz_3 : AL.sz? X.P 3 = (some 1) := by kernel_rfl
theorem zc_3 : zC X.P 3 = (some [(.v (.int .i64 (0)))]) := by kernel_rfl
theorem tk_4 : tk X.P 4 = .bool := by kernel_rfl
theorem lay_4 : lay X.P 4 = (some (false, 1)) := by kernel_rfl
theorem sz_4 : AL.sz? X.P 4 = (some 1) := by kernel_rfl
theorem zc_4 : zC X.P 4 = (some [(.v (.bool false))]) := by kernel_rfl
theorem tk_5 : tk X.P 5 = (.int .u8) := by kernel_rfl
theorem lay_5 : lay X.P 5 = (some (false, 1)) := by kernel_rfl
theorem sz_5 : AL.sz? X.P 5 = (some 1) := by kernel_rfl
theorem zc_5 : zC X.P 5 = (some [(.v (.int .u8 (0)))]) := by kernel_rfl
theorem tk_9 : tk X.P 9 = .str := by kernel_rfl
theorem lay_9 : lay X.P 9 = (some (false, 1)) := by kernel_rfl
theorem sz_9 : AL.sz? X.P 9 = (some 1) := by kernel_rfl
theorem zc_9 : zC X.P 9 = (some [(.s [])]) := by kernel_rfl
theorem tk_12 : tk X.P 12 = (.int .u64) := by kernel_rfl
theorem lay_12 : lay X.P 12 = (some (false, 1)) := by kernel_rfl
theorem sz_12 : AL.sz? X.P 12 = (some 1) := by kernel_rfl
theorem zc_12 : zC X.P 12 = (some [(.v (.int .u64 (0)))]) := by kernel_rfl
theorem tk_22 : tk X.P 22 = (.sl 32 (some 2)) := by kernel_rfl
theorem lay_22 : lay X.P 22 = (some (false, 1)) := by kernel_rfl
theorem sz_22 : AL.sz? X.P 22 = (some 1) := by kernel_rfl
theorem zc_22 : zC X.P 22 = (some [(.sl true [])]) := by kernel_rfl
theorem el_22 : elT X.P 22 = (some (32, (2, 24))) := by kernel_rfl
theorem tk_24 : tk X.P 24 = (.st [(some (0, (1, false))), (some (1, (1, false))), (some (2, (1, false))), (some (3, (1, false))), (some (4, (1, false))), (some (5, (1, false))), (some (6, (1, false))), (some (7, (1, false))), (some (8, (1, false)))]) := by kernel_rfl
theorem lay_24 : lay X.P 24 = (some (true, 9)) := by kernel_rfl
theorem sz_24 : AL.sz? X.P 24 = (some 9) := by kernel_rfl
theorem zc_24 : zC X.P 24 = (some [(.v (.int .i64 (0))), (.v (.int .i64 (0))), (.v (.int .i64 (0))), (.v (.int .i64 (0))), (.v (.int .i64 (0))), (.v (.int .i64 (0))), (.v (.int .i64 (0))), (.sl true []), (.sl true [])]) := by kernel_rfl
theorem bt_24 : buildT X.P 24 = (some ([(.v (.int .i64 (0))), (.v (.int .i64 (0))), (.v (.int .i64 (0))), (.v (.int .i64 (0))), (.v (.int .i64 (0))), (.v (.int .i64 (0))), (.v (.int .i64 (0))), (.sl true []), (.sl true [])], [(0, 1), (1, 1), (2, 1), (3, 1), (4, 1), (5, 1), (6, 1), (7, 1), (8, 1)])) := by kernel_rfl
theorem tk_29 : tk X.P 29 = (.arr 2 (some (9, true))) := by kernel_rfl
theorem lay_29 : lay X.P 29 = (some (true, 18)) := by kernel_rfl
theorem sz_29 : AL.sz? X.P 29 = (some 18) := by kernel_rfl
theorem zc_29 : zC X.P 29 = (some [(.v (.int .i64 (0))), (.v (.int .i64 (0))), (.v (.int .i64 (0))), (.v (.int .i64 (0))), (.v (.int .i64 (0))), (.v (.int .i64 (0))), (.v (.int .i64 (0))), (.sl true []), (.sl true []), (.v (.int .i64 (0))), (.v (.int .i64 (0))), (.v (.int .i64 (0))), (.v (.int .i64 (0))), (.v (.int .i64 (0))), (.v (.int .i64 (0))), (.v (.int .i64 (0))), (.sl true []), (.sl true [])]) := by kernel_rfl
theorem bt_29 : buildT X.P 29 = (some ([(.v (.int .i64 (0))), (.v (.int .i64 (0))), (.v (.int .i64 (0))), (.v (.int .i64 (0))), (.v (.int .i64 (0))), (.v (.int .i64 (0))), (.v (.int .i64 (0))), (.sl true []), (.sl true []), (.v (.int .i64 (0))), (.v (.int .i64 (0))), (.v (.int .i64 (0))), (.v (.int .i64 (0))), (.v (.int .i64 (0))), (.v (.int .i64 (0))), (.v (.int .i64 (0))), (.sl true []), (.sl true [])], [(0, 9), (9, 9)])) := by kernel_rfl
theorem tk_32 : tk X.P 32 = (.st [(some (0, (1, false))), (some (1, (1, false)))]) := by kernel_rfl
theorem lay_32 : lay X.P 32 = (some (true, 2)) := by kernel_rfl
theorem sz_32 : AL.sz? X.P 32 = (some 2) := by kernel_rfl
theorem zc_32 : zC X.P 32 = (some [(.s []), (.v (.int .i64 (0)))]) := by kernel_rfl
theorem bt_32 : buildT X.P 32 = (some ([(.s []), (.v (.int .i64 (0)))], [(0, 1), (1, 1)])) := by kernel_rfl
theorem tk_34 : tk X.P 34 = (.sl 9 (some 1)) := by kernel_rfl
theorem lay_34 : lay X.P 34 = (some (false, 1)) := by kernel_rfl
theorem sz_34 : AL.sz? X.P 34 = (some 1) := by kernel_rfl
theorem zc_34 : zC X.P 34 = (some [(.sl true [])]) := by kernel_rfl
theorem el_34 : elT X.P 34 = (some (9, (1, 16))) := by kernel_rfl
theorem tk_35 : tk X.P 35 = (.sl 37 (some 5)) := by kernel_rfl
theorem lay_35 : lay X.P 35 = (some (false, 1)) := by kernel_rfl
theorem sz_35 : AL.sz? X.P 35 = (some 1) := by kernel_rfl
theorem zc_35 : zC X.P 35 = (some [(.sl true [])]) := by kernel_rfl
theorem el_35 : elT X.P 35 = (some (37, (5, 80))) := by kernel_rfl
theorem tk_37 : tk X.P 37 = (.st [(some (0, (1, false))), (some (1, (1, false))), (some (2, (1, false))), (some (3, (1, false))), (some (4, (1, false)))]) := by kernel_rfl
theorem lay_37 : lay X.P 37 = (some (true, 5)) := by kernel_rfl
theorem sz_37 : AL.sz? X.P 37 = (some 5) := by kernel_rfl
theorem zc_37 : zC X.P 37 = (some [(.v (.int .i64 (0))), (.v (.int .i64 (0))), (.s []), (.sl true []), (.sl true [])]) := by kernel_rfl
theorem bt_37 : buildT X.P 37 = (some ([(.v (.int .i64 (0))), (.v (.int .i64 (0))), (.s []), (.sl true []), (.sl true [])], [(0, 1), (1, 1), (2, 1), (3, 1), (4, 1)])) := by kernel_rfl
theorem tk_38 : tk X.P 38 = .func := by kernel_rfl
theorem lay_38 : lay X.P 38 = (some (false, 1)) := by kernel_rfl
theorem sz_38 : AL.sz? X.P 38 = (some 1) := by kernel_rfl
theorem zc_38 : zC X.P 38 = (some [(.v .nilFunc)]) := by kernel_rfl
theorem tk_39 : tk X.P 39 = (.int .i64) := by kernel_rfl
theorem lay_39 : lay X.P 39 = (some (false, 1)) := by kernel_rfl
theorem sz_39 : AL.sz? X.P 39 = (some 1) := by kernel_rfl
theorem zc_39 : zC X.P 39 = (some [(.v (.int .i64 (0)))]) := by kernel_rfl
theorem tk_46 : tk X.P 46 = .func := by kernel_rfl
theorem lay_46 : lay X.P 46 = (some (false, 1)) := by kernel_rfl
theorem sz_46 : AL.sz? X.P 46 = (some 1) := by kernel_rfl
theorem zc_46 : zC X.P 46 = (some [(.v .nilFunc)]) := by kernel_rfl
theorem tk_53 : tk X.P 53 = (.arr 7 (some (1, false))) := by kernel_rfl
theorem lay_53 : lay X.P 53 = (some (true, 7)) := by kernel_rfl
theorem sz_53 : AL.sz? X.P 53 = (some 7) := by kernel_rfl
theorem zc_53 : zC X.P 53 = (some [(.v (.int .i64 (0))), (.v (.int .i64 (0))), (.v (.int .i64 (0))), (.v (.int .i64 (0))), (.v (.int .i64 (0))), (.v (.int .i64 (0))), (.v (.int .i64 (0)))]) := by kernel_rfl
theorem bt_53 : buildT X.P 53 = (some ([(.v (.int .i64 (0))), (.v (.int .i64 (0))), (.v (.int .i64 (0))), (.v (.int .i64 (0))), (.v (.int .i64 (0))), (.v (.int .i64 (0))), (.v (.int .i64 (0)))], [(0, 1), (1, 1), (2, 1), (3, 1), (4, 1), (5, 1), (6, 1)])) := by kernel_rfl
theorem tk_56 : tk X.P 56 = (.st [(some (0, (1, false))), (some (1, (1, false))), (some (2, (1, false))), (some (3, (1, false))), (some (4, (1, false)))]) := by kernel_rfl
theorem lay_56 : lay X.P 56 = (some (true, 5)) := by kernel_rfl
theorem sz_56 : AL.sz? X.P 56 = (some 5) := by kernel_rfl
theorem zc_56 : zC X.P 56 = (some [(.s []), (.v (.int .i64 (0))), (.v (.int .i64 (0))), (.v (.bool false)), (.v (.bool false))]) := by kernel_rfl
theorem bt_56 : buildT X.P 56 = (some ([(.s []), (.v (.int .i64 (0))), (.v (.int .i64 (0))), (.v (.bool false)), (.v (.bool false))], [(0, 1), (1, 1), (2, 1), (3, 1), (4, 1)])) := by kernel_rfl
theorem tk_57 : tk X.P 57 = .func := by kernel_rfl
theorem lay_57 : lay X.P 57 = (some (false, 1)) := by kernel_rfl
theorem sz_57 : AL.sz? X.P 57 = (some 1) := by kernel_rfl
theorem zc_57 : zC X.P 57 = (some [(.v .nilFunc)]) := by kernel_rfl
theorem tk_61 : tk X.P 61 = (.sl 2 (some 1)) := by kernel_rfl
theorem lay_61 : lay X.P 61 = (some (false, 1)) := by kernel_rfl
theorem sz_61 : AL.sz? X.P 61 = (some 1) := by kernel_rfl
theorem zc_61 : zC X.P 61 = (some [(.sl true [])]) := by kernel_rfl
theorem el_61 : elT X.P 61 = (some (2, (1, 8))) := by kernel_rfl
theorem tk_69 : tk X.P 69 = .ptr := by kernel_rfl
theorem lay_69 : lay X.P 69 = (some (false, 1)) := by kernel_rfl
theorem sz_69 : AL.sz? X.P 69 = (some 1) := by kernel_rfl
theorem zc_69 : zC X.P 69 = (some [(.v (.pointer none))]) := by kernel_rfl
theorem tk_70 : tk X.P 70 = (.map 9 37) := by kernel_rfl
theorem lay_70 : lay X.P 70 = (some (false, 1)) := by kernel_rfl
theorem sz_70 : AL.sz? X.P 70 = (some 1) := by kernel_rfl
theorem zc_70 : zC X.P 70 = (some [(.v (.map none))]) := by kernel_rfl
theorem mp_70 : mapT X.P 70 = (some (.str, (some (.agg [(.v (.int .i64 (0))), (.v (.int .i64 (0))), (.s []), (.sl true []), (.sl true [])])))) := by kernel_rfl
theorem tk_72 : tk X.P 72 = (.st [(some (0, (1, false))), (some (1, (1, false)))]) := by kernel_rfl
theorem lay_72 : lay X.P 72 = (some (true, 2)) := by kernel_rfl
theorem sz_72 : AL.sz? X.P 72 = (some 2) := by kernel_rfl
theorem zc_72 : zC X.P 72 = (some [(.v (.map none)), (.v (.bool false))]) := by kernel_rfl
theorem bt_72 : buildT X.P 72 = (some ([(.v (.map none)), (.v (.bool false))], [(0, 1), (1, 1)])) := by kernel_rfl
theorem tk_77 : tk X.P 77 = .func := by kernel_rfl
theorem lay_77 : lay X.P 77 = (some (false, 1)) := by kernel_rfl
theorem sz_77 : AL.sz? X.P 77 = (some 1) := by kernel_rfl
theorem zc_77 : zC X.P 77 = (some [(.v .nilFunc)]) := by kernel_rfl
theorem tk_81 : tk X.P 81 = .func := by kernel_rfl
theorem lay_81 : lay X.P 81 = (some (false, 1)) := by kernel_rfl
theorem sz_81 : AL.sz? X.P 81 = (some 1) := by kernel_rfl
theorem zc_81 : zC X.P 81 = (some [(.v .nilFunc)]) := by kernel_rfl
theorem tk_86 : tk X.P 86 = (.sl 22 (some 1)) := by kernel_rfl
theorem lay_86 : lay X.P 86 = (some (false, 1)) := by kernel_rfl
theorem sz_86 : AL.sz? X.P 86 = (some 1) := by kernel_rfl
theorem zc_86 : zC X.P 86 = (some [(.sl true [])]) := by kernel_rfl
theorem el_86 : elT X.P 86 = (some (22, (1, 24))) := by kernel_rfl
theorem tk_89 : tk X.P 89 = (.sl 3 (some 1)) := by kernel_rfl
theorem lay_89 : lay X.P 89 = (some (false, 1)) := by kernel_rfl
theorem sz_89 : AL.sz? X.P 89 = (some 1) := by kernel_rfl
theorem zc_89 : zC X.P 89 = (some [(.sl true [])]) := by kernel_rfl
theorem el_89 : elT X.P 89 = (some (3, (1, 8))) := by kernel_rfl
theorem tk_95 : tk X.P 95 = .func := by kernel_rfl
theorem lay_95 : lay X.P 95 = (some (false, 1)) := by kernel_rfl
theorem sz_95 : AL.sz? X.P 95 = (some 1) := by kernel_rfl
theorem zc_95 : zC X.P 95 = (some [(.v .nilFunc)]) := by kernel_rfl
theorem tk_99 : tk X.P 99 = (.arr 256 (some (1, false))) := by kernel_rfl
theorem lay_99 : lay X.P 99 = (some (true, 256)) := by kernel_rfl
theorem sz_99 : AL.sz? X.P 99 = (some 256) := by kernel_rfl
theorem zc_99 : zC X.P 99 = (some [(.v (.int .u8 (0))), (.v (.int .u8 (0))), (.v (.int .u8 (0))), (.v (.int .u8 (0))), (.v (.int .u8 (0))), (.v (.int .u8 (0))), (.v (.int .u8 (0))), (.v (.int .u8 (0))), (.v (.int .u8 (0))), (.v (.int .u8 (0))), (.v (.int .u8 (0))), (.v (.int .u8 (0))), (.v (.int .u8 (0))), (.v (.int .u8 (0))), (.v (.int .u8 (0))), (.v (.int .u8 (0))), (.v (.int .u8 (0))), (.v (.int .u8 (0))), (.v (.int .u8 (0))), (.v (.int .u8 (0))), (.v (.int .u8 (0))), (.v (.int .u8 (0))), (.v (.int .u8 (0))), (.v (.int .u8 (0))), (.v (.int .u8 (0))), (.v (.int .u8 (0))), (.v (.int .u8 (0))), (.v (.int .u8 (0))), (.v (.int .u8 (0))), (.v (.int .u8 (0))), (.v (.int .u8 (0))), (.v (.int .u8 (0))), (.v (.int .u8 (0))), (.v (.int .u8 (0))), (.v (.int .u8 (0))), (.v (.int .u8 (0))), (.v (.int .u8 (0))), (.v (.int .u8 (0))), (.v (.int .u8 (0))), (.v (.int .u8 (0))), (.v (.int .u8 (0))), (.v (.int .u8 (0))), (.v (.int .u8 (0))), (.v (.int .u8 (0))), (.v (.int .u8 (0))), (.v (.int .u8 (0))), (.v (.int .u8 (0))), (.v (.int .u8 (0))), (.v (.int .u8 (0))), (.v (.int .u8 (0))), (.v (.int .u8 (0))), (.v (.int .u8 (0))), (.v (.int .u8 (0))), (.v (.int .u8 (0))), (.v (.int .u8 (0))), (.v (.int .u8 (0))), (.v (.int .u8 (0))), (.v (.int .u8 (0))), (.v (.int .u8 (0))), (.v (.int .u8 (0))), (.v (.int .u8 (0))), (.v (.int .u8 (0))), (.v (.int .u8 (0))), (.v (.int .u8 (0))), (.v (.int .u8 (0))), (.v (.int .u8 (0))), (.v (.int .u8 (0))), (.v (.int .u8 (0))), (.v (.int .u8 (0))), (.v (.int .u8 (0))), (.v (.int .u8 (0))), (.v (.int .u8 (0))), (.v (.int .u8 (0))), (.v (.int .u8 (0))), (.v (.int .u8 (0))), (.v (.int .u8 (0))), (.v (.int .u8 (0))), (.v (.int .u8 (0))), (.v (.int .u8 (0))), (.v (.int .u8 (0))), (.v (.int .u8 (0))), (.v (.int .u8 (0))), (.v (.int .u8 (0))), (.v (.int .u8 (0))), (.v (.int .u8 (0))), (.v (.int .u8 (0))), (.v (.int .u8 (0))), (.v (.int .u8 (0))), (.v (.int .u8 (0))), (.v (.int .u8 (0))), (.v (.int .u8 (0))), (.v (.int .u8 (0))), (.v (.int .u8 (0))), (.v (.int .u8 (0))), (.v (.int .u8 (0))), (.v (.int .u8 (0))), (.v (.int .u8 (0))), (.v (.int .u8 (0))), (.v (.int .u8 (0))), (.v (.int .u8 (0))), (.v (.int .u8 (0))), (.v (.int .u8 (0))), (.v (.int .u8 (0))), (.v (.int .u8 (0))), (.v (.int .u8 (0))), (.v (.int .u8 (0))), (.v (.int .u8 (0))), (.v (.int .u8 (0))), (.v (.int .u8 (0))), (.v (.int .u8 (0))), (.v (.int .u8 (0))), (.v (.int .u8 (0))), (.v (.int .u8 (0))), (.v (.int .u8 (0))), (.v (.int .u8 (0))), (.v (.int .u8 (0))), (.v (.int .u8 (0))), (.v (.int .u8 (0))), (.v (.int .u8 (0))), (.v (.int .u8 (0))), (.v (.int .u8 (0))), (.v (.int .u8 (0))), (.v (.int .u8 (0))), (.v (.int .u8 (0))), (.v (.int .u8 (0))), (.v (.int .u8 (0))), (.v (.int .u8 (0))), (.v (.int .u8 (0))), (.v (.int .u8 (0))), (.v (.int .u8 (0))), (.v (.int .u8 (0))), (.v (.int .u8 (0))), (.v (.int .u8 (0))), (.v (.int .u8 (0))), (.v (.int .u8 (0))), (.v (.int .u8 (0))), (.v (.int .u8 (0))), (.v (.int .u8 (0))), (.v (.int .u8 (0))), (.v (.int .u8 (0))), (.v (.int .u8 (0))), (.v (.int .u8 (0))), (.v (.int .u8 (0))), (.v (.int .u8 (0))), (.v (.int .u8 (0))), (.v (.int .u8 (0))), (.v (.int .u8 (0))), (.v (.int .u8 (0))), (.v (.int .u8 (0))), (.v (.int .u8 (0))), (.v (.int .u8 (0))), (.v (.int .u8 (0))), (.v (.int .u8 (0))), (.v (.int .u8 (0))), (.v (.int .u8 (0))), (.v (.int .u8 (0))), (.v (.int .u8 (0))), (.v (.int .u8 (0))), (.v (.int .u8 (0))), (.v (.int .u8 (0))), (.v (.int .u8 (0))), (.v (.int .u8 (0))), (.v (.int .u8 (0))), (.v (.int .u8 (0))), (.v (.int .u8 (0))), (.v (.int .u8 (0))), (.v (.int .u8 (0))), (.v (.int .u8 (0))), (.v (.int .u8 (0))), (.v (.int .u8 (0))), (.v (.int .u8 (0))), (.v (.int .u8 (0))), (.v (.int .u8 (0))), (.v (.int .u8 (0))), (.v (.int .u8 (0))), (.v (.int .u8 (0))), (.v (.int .u8 (0))), (.v (.int .u8 (0))), (.v (.int .u8 (0))), (.v (.int .u8 (0))), (.v (.int .u8 (0))), (.v (.int .u8 (0))), (.v (.int .u8 (0))), (.v (.int .u8 (0))), (.v (.int .u8 (0))), (.v (.int .u8 (0))), (.v (.int .u8 (0))), (.v (.int .u8 (0))), (.v (.int .u8 (0))), (.v (.int .u8 (0))), (.v (.int .u8 (0))), (.v (.int .u8 (0))), (.v (.int .u8 (0))), (.v (.int .u8 (0))), (.v (.int .u8 (0))), (.v (.int .u8 (0))), (.v (.int .u8 (0))), (.v (.int .u8 (0))), (.v (.int .u8 (0))), (.v (.int .u8 (0))), (.v (.int .u8 (0))), (.v (.int .u8 (0))), (.v (.int .u8 (0))), (.v (.int .u8 (0))), (.v (.int .u8 (0))), (.v (.int .u8 (0))), (.v (.int .u8 (0))), (.v (.int .u8 (0))), (.v (.int .u8 (0))), (.v (.int .u8 (0))), (.v (.int .u8 (0))), (.v (.int .u8 (0))), (.v (.int .u8 (0))), (.v (.int .u8 (0))), (.v (.int .u8 (0))), (.v (.int .u8 (0))), (.v (.int .u8 (0))), (.v (.int .u8 (0))), (.v (.int .u8 (0))), (.v (.int .u8 (0))), (.v (.int .u8 (0))), (.v (.int .u8 (0))), (.v (.int .u8 (0))), (.v (.int .u8 (0))), (.v (.int .u8 (0))), (.v (.int .u8 (0))), (.v (.int .u8 (0))), (.v (.int .u8 (0))), (.v (.int .u8 (0))), (.v (.int .u8 (0))), (.v (.int .u8 (0))), (.v (.int .u8 (0))), (.v (.int .u8 (0))), (.v (.int .u8 (0))), (.v (.int .u8 (0))), (.v (.int .u8 (0))), (.v (.int .u8 (0))), (.v (.int .u8 (0))), (.v (.int .u8 (0))), (.v (.int .u8 (0))), (.v (.int .u8 (0))), (.v (.int .u8 (0))), (.v (.int .u8 (0))), (.v (.int .u8 (0))), (.v (.int .u8 (0))), (.v (.int .u8 (0))), (.v (.int .u8 (0))), (.v (.int .u8 (0))), (.v (.int .u8 (0))), (.v (.int .u8 (0))), (.v (.int .u8 (0))), (.v (.int .u8 (0))), (.v (.int .u8 (0))), (.v (.int .u8 (0))), (.v (.int .u8 (0))), (.v (.int .u8 (0)))]) := by kernel_rfl
theorem bt_99 : buildT X.P 99 = (some ([(.v (.int .u8 (0))), (.v (.int .u8 (0))), (.v (.int .u8 (0))), (.v (.int .u8 (0))), (.v (.int .u8 (0))), (.v (.int .u8 (0))), (.v (.int .u8 (0))), (.v (.int .u8 (0))), (.v (.int .u8 (0))), (.v (.int .u8 (0))), (.v (.int .u8 (0))), (.v (.int .u8 (0))), (.v (.int .u8 (0))), (.v (.int .u8 (0))), (.v (.int .u8 (0))), (.v (.int .u8 (0))), (.v (.int .u8 (0))), (.v (.int .u8 (0))), (.v (.int .u8 (0))), (.v (.int .u8 (0))), (.v (.int .u8 (0))), (.v (.int .u8 (0))), (.v (.int .u8 (0))), (.v (.int .u8 (0))), (.v (.int .u8 (0))), (.v (.int .u8 (0))), (.v (.int .u8 (0))), (.v (.int .u8 (0))), (.v (.int .u8 (0))), (.v (.int .u8 (0))), (.v (.int .u8 (0))), (.v (.int .u8 (0))), (.v (.int .u8 (0))), (.v (.int .u8 (0))), (.v (.int .u8 (0))), (.v (.int .u8 (0))), (.v (.int .u8 (0))), (.v (.int .u8 (0))), (.v (.int .u8 (0))), (.v (.int .u8 (0))), (.v (.int .u8 (0))), (.v (.int .u8 (0))), (.v (.int .u8 (0))), (.v (.int .u8 (0))), (.v (.int .u8 (0))), (.v (.int .u8 (0))), (.v (.int .u8 (0))), (.v (.int .u8 (0))), (.v (.int .u8 (0))), (.v (.int .u8 (0))), (.v (.int .u8 (0))), (.v (.int .u8 (0))), (.v (.int .u8 (0))), (.v (.int .u8 (0))), (.v (.int .u8 (0))), (.v (.int .u8 (0))), (.v (.int .u8 (0))), (.v (.int .u8 (0))), (.v (.int .u8 (0))), (.v (.int .u8 (0))), (.v (.int .u8 (0))), (.v (.int .u8 (0))), (.v (.int .u8 (0))), (.v (.int .u8 (0))), (.v (.int .u8 (0))), (.v (.int .u8 (0))), (.v (.int .u8 (0))), (.v (.int .u8 (0))), (.v (.int .u8 (0))), (.v (.int .u8 (0))), (.v (.int .u8 (0))), (.v (.int .u8 (0))), (.v (.int .u8 (0))), (.v (.int .u8 (0))), (.v (.int .u8 (0))), (.v (.int .u8 (0))), (.v (.int .u8 (0))), (.v (.int .u8 (0))), (.v (.int .u8 (0))), (.v (.int .u8 (0))), (.v (.int .u8 (0))), (.v (.int .u8 (0))), (.v (.int .u8 (0))), (.v (.int .u8 (0))), (.v (.int .u8 (0))), (.v (.int .u8 (0))), (.v (.int .u8 (0))), (.v (.int .u8 (0))), (.v (.int .u8 (0))), (.v (.int .u8 (0))), (.v (.int .u8 (0))), (.v (.int .u8 (0))), (.v (.int .u8 (0))), (.v (.int .u8 (0))), (.v (.int .u8 (0))), (.v (.int .u8 (0))), (.v (.int .u8 (0))), (.v (.int .u8 (0))), (.v (.int .u8 (0))), (.v (.int .u8 (0))), (.v (.int .u8 (0))), (.v (.int .u8 (0))), (.v (.int .u8 (0))), (.v (.int .u8 (0))), (.v (.int .u8 (0))), (.v (.int .u8 (0))), (.v (.int .u8 (0))), (.v (.int .u8 (0))), (.v (.int .u8 (0))), (.v (.int .u8 (0))), (.v (.int .u8 (0))), (.v (.int .u8 (0))), (.v (.int .u8 (0))), (.v (.int .u8 (0))), (.v (.int .u8 (0))), (.v (.int .u8 (0))), (.v (.int .u8 (0))), (.v (.int .u8 (0))), (.v (.int .u8 (0))), (.v (.int .u8 (0))), (.v (.int .u8 (0))), (.v (.int .u8 (0))), (.v (.int .u8 (0))), (.v (.int .u8 (0))), (.v (.int .u8 (0))), (.v (.int .u8 (0))), (.v (.int .u8 (0))), (.v (.int .u8 (0))), (.v (.int .u8 (0))), (.v (.int .u8 (0))), (.v (.int .u8 (0))), (.v (.int .u8 (0))), (.v (.int .u8 (0))), (.v (.int .u8 (0))), (.v (.int .u8 (0))), (.v (.int .u8 (0))), (.v (.int .u8 (0))), (.v (.int .u8 (0))), (.v (.int .u8 (0))), (.v (.int .u8 (0))), (.v (.int .u8 (0))), (.v (.int .u8 (0))), (.v (.int .u8 (0))), (.v (.int .u8 (0))), (.v (.int .u8 (0))), (.v (.int .u8 (0))), (.v (.int .u8 (0))), (.v (.int .u8 (0))), (.v (.int .u8 (0))), (.v (.int .u8 (0))), (.v (.int .u8 (0))), (.v (.int .u8 (0))), (.v (.int .u8 (0))), (.v (.int .u8 (0))), (.v (.int .u8 (0))), (.v (.int .u8 (0))), (.v (.int .u8 (0))), (.v (.int .u8 (0))), (.v (.int .u8 (0))), (.v (.int .u8 (0))), (.v (.int .u8 (0))), (.v (.int .u8 (0))), (.v (.int .u8 (0))), (.v (.int .u8 (0))), (.v (.int .u8 (0))), (.v (.int .u8 (0))), (.v (.int .u8 (0))), (.v (.int .u8 (0))), (.v (.int .u8 (0))), (.v (.int .u8 (0))), (.v (.int .u8 (0))), (.v (.int .u8 (0))), (.v (.int .u8 (0))), (.v (.int .u8 (0))), (.v (.int .u8 (0))), (.v (.int .u8 (0))), (.v (.int .u8 (0))), (.v (.int .u8 (0))), (.v (.int .u8 (0))), (.v (.int .u8 (0))), (.v (.int .u8 (0))), (.v (.int .u8 (0))), (.v (.int .u8 (0))), (.v (.int .u8 (0))), (.v (.int .u8 (0))), (.v (.int .u8 (0))), (.v (.int .u8 (0))), (.v (.int .u8 (0))), (.v (.int .u8 (0))), (.v (.int .u8 (0))), (.v (.int .u8 (0))), (.v (.int .u8 (0))), (.v (.int .u8 (0))), (.v (.int .u8 (0))), (.v (.int .u8 (0))), (.v (.int .u8 (0))), (.v (.int .u8 (0))), (.v (.int .u8 (0))), (.v (.int .u8 (0))), (.v (.int .u8 (0))), (.v (.int .u8 (0))), (.v (.int .u8 (0))), (.v (.int .u8 (0))), (.v (.int .u8 (0))), (.v (.int .u8 (0))), (.v (.int .u8 (0))), (.v (.int .u8 (0))), (.v (.int .u8 (0))), (.v (.int .u8 (0))), (.v (.int .u8 (0))), (.v (.int .u8 (0))), (.v (.int .u8 (0))), (.v (.int .u8 (0))), (.v (.int .u8 (0))), (.v (.int .u8 (0))), (.v (.int .u8 (0))), (.v (.int .u8 (0))), (.v (.int .u8 (0))), (.v (.int .u8 (0))), (.v (.int .u8 (0))), (.v (.int .u8 (0))), (.v (.int .u8 (0))), (.v (.int .u8 (0))), (.v (.int .u8 (0))), (.v (.int .u8 (0))), (.v (.int .u8 (0))), (.v (.int .u8 (0))), (.v (.int .u8 (0))), (.v (.int .u8 (0))), (.v (.int .u8 (0))), (.v (.int .u8 (0))), (.v (.int .u8 (0))), (.v (.int .u8 (0))), (.v (.int .u8 (0))), (.v (.int .u8 (0))), (.v (.int .u8 (0))), (.v (.int .u8 (0))), (.v (.int .u8 (0))), (.v (.int .u8 (0))), (.v (.int .u8 (0))), (.v (.int .u8 (0))), (.v (.int .u8 (0))), (.v (.int .u8 (0))), (.v (.int .u8 (0))), (.v (.int .u8 (0))), (.v (.int .u8 (0))), (.v (.int .u8 (0))), (.v (.int .u8 (0))), (.v (.int .u8 (0))), (.v (.int .u8 (0))), (.v (.int .u8 (0))), (.v (.int .u8 (0))), (.v (.int .u8 (0))), (.v (.int .u8 (0))), (.v (.int .u8 (0))), (.v (.int .u8 (0)))], [(0, 1), (1, 1), (2, 1), (3, 1), (4, 1), (5, 1), (6, 1), (7, 1), (8, 1), (9, 1), (10, 1), (11, 1), (12, 1), (13, 1), (14, 1), (15, 1), (16, 1), (17, 1), (18, 1), (19, 1), (20, 1), (21, 1), (22, 1), (23, 1), (24, 1), (25, 1), (26, 1), (27, 1), (28, 1), (29, 1), (30, 1), (31, 1), (32, 1), (33, 1), (34, 1), (35, 1), (36, 1), (37, 1), (38, 1), (39, 1), (40, 1), (41, 1), (42, 1), (43, 1), (44, 1), (45, 1), (46, 1), (47, 1), (48, 1), (49, 1), (50, 1), (51, 1), (52, 1), (53, 1), (54, 1), (55, 1), (56, 1), (57, 1), (58, 1), (59, 1), (60, 1), (61, 1), (62, 1), (63, 1), (64, 1), (65, 1), (66, 1), (67, 1), (68, 1), (69, 1), (70, 1), (71, 1), (72, 1), (73, 1), (74, 1), (75, 1), (76, 1), (77, 1), (78, 1), (79, 1), (80, 1), (81, 1), (82, 1), (83, 1), (84, 1), (85, 1), (86, 1), (87, 1), (88, 1), (89, 1), (90, 1), (91, 1), (92, 1), (93, 1), (94, 1), (95, 1), (96, 1), (97, 1), (98, 1), (99, 1), (100, 1), (101, 1), (102, 1), (103, 1), (104, 1), (105, 1), (106, 1), (107, 1), (108, 1), (109, 1), (110, 1), (111, 1), (112, 1), (113, 1), (114, 1), (115, 1), (116, 1), (117, 1), (118, 1), (119, 1), (120, 1), (121, 1), (122, 1), (123, 1), (124, 1), (125, 1), (126, 1), (127, 1), (128, 1), (129, 1), (130, 1), (131, 1), (132, 1), (133, 1), (134, 1), (135, 1), (136, 1), (137, 1), (138, 1), (139, 1), (140, 1), (141, 1), (142, 1), (143, 1), (144, 1), (145, 1), (146, 1), (147, 1), (148, 1), (149, 1), (150, 1), (151, 1), (152, 1), (153, 1), (154, 1), (155, 1), (156, 1), (157, 1), (158, 1), (159, 1), (160, 1), (161, 1), (162, 1), (163, 1), (164, 1), (165, 1), (166, 1), (167, 1), (168, 1), (169, 1), (170, 1), (171, 1), (172, 1), (173, 1), (174, 1), (175, 1), (176, 1), (177, 1), (178, 1), (179, 1), (180, 1), (181, 1), (182, 1), (183, 1), (184, 1), (185, 1), (186, 1), (187, 1), (188, 1), (189, 1), (190, 1), (191, 1), (192, 1), (193, 1), (194, 1), (195, 1), (196, 1), (197, 1), (198, 1), (199, 1), (200, 1), (201, 1), (202, 1), (203, 1), (204, 1), (205, 1), (206, 1), (207, 1), (208, 1), (209, 1), (210, 1), (211, 1), (212, 1), (213, 1), (214, 1), (215, 1), (216, 1), (217, 1), (218, 1), (219, 1), (220, 1), (221, 1), (222, 1), (223, 1), (224, 1), (225, 1), (226, 1), (227, 1), (228, 1), (229, 1), (230, 1), (231, 1), (232, 1), (233, 1), (234, 1), (235, 1), (236, 1), (237, 1), (238, 1), (239, 1), (240, 1), (241, 1), (242, 1), (243, 1), (244, 1), (245, 1), (246, 1), (247, 1), (248, 1), (249, 1), (250, 1), (251, 1), (252, 1), (253, 1), (254, 1), (255, 1)])) := by kernel_rfl
theorem tk_101 : tk X.P 101 = (.st [(some (0, (1, false))), (some (1, (1, false)))]) := by kernel_rfl
theorem lay_101 : lay X.P 101 = (some (true, 2)) := by kernel_rfl
theorem sz_101 : AL.sz? X.P 101 = (some 2) := by kernel_rfl
theorem zc_101 : zC X.P 101 = (some [(.v (.int .u8 (0))), (.v (.int .u8 (0)))]) := by kernel_rfl
theorem bt_101 : buildT X.P 101 = (some ([(.v (.int .u8 (0))), (.v (.int .u8 (0)))], [(0, 1), (1, 1)])) := by kernel_rfl
theorem tk_102 : tk X.P 102 = (.arr 16 (some (2, true))) := by kernel_rfl
theorem lay_102 : lay X.P 102 = (some (true, 32)) := by kernel_rfl
theorem sz_102 : AL.sz? X.P 102 = (some 32) := by kernel_rfl
theorem zc_102 : zC X.P 102 = (some [(.v (.int .u8 (0))), (.v (.int .u8 (0))), (.v (.int .u8 (0))), (.v (.int .u8 (0))), (.v (.int .u8 (0))), (.v (.int .u8 (0))), (.v (.int .u8 (0))), (.v (.int .u8 (0))), (.v (.int .u8 (0))), (.v (.int .u8 (0))), (.v (.int .u8 (0))), (.v (.int .u8 (0))), (.v (.int .u8 (0))), (.v (.int .u8 (0))), (.v (.int .u8 (0))), (.v (.int .u8 (0))), (.v (.int .u8 (0))), (.v (.int .u8 (0))), (.v (.int .u8 (0))), (.v (.int .u8 (0))), (.v (.int .u8 (0))), (.v (.int .u8 (0))), (.v (.int .u8 (0))), (.v (.int .u8 (0))), (.v (.int .u8 (0))), (.v (.int .u8 (0))), (.v (.int .u8 (0))), (.v (.int .u8 (0))), (.v (.int .u8 (0))), (.v (.int .u8 (0))), (.v (.int .u8 (0))), (.v (.int .u8 (0)))]) := by kernel_rfl
theorem bt_102 : buildT X.P 102 = (some ([(.v (.int .u8 (0))), (.v (.int .u8 (0))), (.v (.int .u8 (0))), (.v (.int .u8 (0))), (.v (.int .u8 (0))), (.v (.int .u8 (0))), (.v (.int .u8 (0))), (.v (.int .u8 (0))), (.v (.int .u8 (0))), (.v (.int .u8 (0))), (.v (.int .u8 (0))), (.v (.int .u8 (0))), (.v (.int .u8 (0))), (.v (.int .u8 (0))), (.v (.int .u8 (0))), (.v (.int .u8 (0))), (.v (.int .u8 (0))), (.v (.int .u8 (0))), (.v (.int .u8 (0))), (.v (.int .u8 (0))), (.v (.int .u8 (0))), (.v (.int .u8 (0))), (.v (.int .u8 (0))), (.v (.int .u8 (0))), (.v (.int .u8 (0))), (.v (.int .u8 (0))), (.v (.int .u8 (0))), (.v (.int .u8 (0))), (.v (.int .u8 (0))), (.v (.int .u8 (0))), (.v (.int .u8 (0))), (.v (.int .u8 (0)))], [(0, 2), (2, 2), (4, 2), (6, 2), (8, 2), (10, 2), (12, 2), (14, 2), (16, 2), (18, 2), (20, 2), (22, 2), (24, 2), (26, 2), (28, 2), (30, 2)])) := by kernel_rfl
theorem tk_103 : tk X.P 103 = (.int .u64) := by kernel_rfl
theorem lay_103 : lay X.P 103 = (some (false, 1)) := by kernel_rfl
theorem sz_103 : AL.sz? X.P 103 = (some 1) := by kernel_rfl
theorem zc_103 : zC X.P 103 = (some [(.v (.int .u64 (0)))]) := by kernel_rfl
theorem tk_104 : tk X.P 104 = (.map 9 4) := by kernel_rfl
theorem lay_104 : lay X.P 104 = (some (false, 1)) := by kernel_rfl
theorem sz_104 : AL.sz? X.P 104 = (some 1) := by kernel_rfl
theorem zc_104 : zC X.P 104 = (some [(.v (.map none))]) := by kernel_rfl
theorem mp_104 : mapT X.P 104 = (some (.str, (some (.v (.bool false))))) := by kernel_rfl
theorem tk_107 : tk X.P 107 = (.int .u64) := by kernel_rfl
theorem lay_107 : lay X.P 107 = (some (false, 1)) := by kernel_rfl
theorem sz_107 : AL.sz? X.P 107 = (some 1) := by kernel_rfl
theorem zc_107 : zC X.P 107 = (some [(.v (.int .u64 (0)))]) := by kernel_rfl
theorem tk_109 : tk X.P 109 = (.int .i64) := by kernel_rfl
theorem lay_109 : lay X.P 109 = (some (false, 1)) := by kernel_rfl
theorem sz_109 : AL.sz? X.P 109 = (some 1) := by kernel_rfl
theorem zc_109 : zC X.P 109 = (some [(.v (.int .i64 (0)))]) := by kernel_rfl
theorem tk_117 : tk X.P 117 = (.int .u32) := by kernel_rfl
theorem lay_117 : lay X.P 117 = (some (false, 1)) := by kernel_rfl
theorem sz_117 : AL.sz? X.P 117 = (some 1) := by kernel_rfl
theorem zc_117 : zC X.P 117 = (some [(.v (.int .u32 (0)))]) := by kernel_rfl
theorem tk_121 : tk X.P 121 = (.int .u64) := by kernel_rfl
theorem lay_121 : lay X.P 121 = (some (false, 1)) := by kernel_rfl
theorem sz_121 : AL.sz? X.P 121 = (some 1) := by kernel_rfl
theorem zc_121 : zC X.P 121 = (some [(.v (.int .u64 (0)))]) := by kernel_rfl
theorem tk_125 : tk X.P 125 = .ptr := by kernel_rfl
theorem lay_125 : lay X.P 125 = (some (false, 1)) := by kernel_rfl
theorem sz_125 : AL.sz? X.P 125 = (some 1) := by kernel_rfl
theorem zc_125 : zC X.P 125 = (some [(.v (.pointer none))]) := by kernel_rfl
theorem us_2 : (X.P.underlying 2).isSome = true := by kernel_rfl
theorem us_3 : (X.P.underlying 3).isSome = true := by kernel_rfl
theorem us_4 : (X.P.underlying 4).isSome = true := by kernel_rfl
theorem us_5 : (X.P.underlying 5).isSome = true := by kernel_rfl
theorem us_9 : (X.P.underlying 9).isSome = true := by kernel_rfl
theorem us_12 : (X.P.underlying 12).isSome = true := by kernel_rfl
theorem us_22 : (X.P.underlying 22).isSome = true := by kernel_rfl
theorem us_24 : (X.P.underlying 24).isSome = true := by kernel_rfl
theorem us_29 : (X.P.underlying 29).isSome = true := by kernel_rfl
theorem us_32 : (X.P.underlying 32).isSome = true := by kernel_rfl
theorem us_34 : (X.P.underlying 34).isSome = true := by kernel_rfl
theorem us_35 : (X.P.underlying 35).isSome = true := by kernel_rfl
theorem us_37 : (X.P.underlying 37).isSome = true := by kernel_rfl
theorem us_38 : (X.P.underlying 38).isSome = true := by kernel_rfl
theorem us_39 : (X.P.underlying 39).isSome = true := by kernel_rfl
theorem us_46 : (X.P.underlying 46).isSome = true := by kernel_rfl
theorem us_53 : (X.P.underlying 53).isSome = true := by kernel_rfl
theorem us_56 : (X.P.underlying 56).isSome = true := by kernel_rfl
theorem us_57 : (X.P.underlying 57).isSome = true := by kernel_rfl
theorem us_61 : (X.P.underlying 61).isSome = true := by kernel_rfl
theorem us_69 : (X.P.underlying 69).isSome = true := by kernel_rfl
theorem us_70 : (X.P.underlying 70).isSome = true := by kernel_rfl
theorem us_72 : (X.P.underlying 72).isSome = true := by kernel_rfl
theorem us_77 : (X.P.underlying 77).isSome = true := by kernel_rfl
theorem us_81 : (X.P.underlying 81).isSome = true := by kernel_rfl
theorem us_86 : (X.P.underlying 86).isSome = true := by kernel_rfl
theorem us_89 : (X.P.underlying 89).isSome = true := by kernel_rfl
theorem us_95 : (X.P.underlying 95).isSome = true := by kernel_rfl
theorem us_99 : (X.P.underlying 99).isSome = true := by kernel_rfl
theorem us_101 : (X.P.underlying 101).isSome = true := by kernel_rfl
theorem us_102 : (X.P.underlying 102).isSome = true := by kernel_rfl
theorem us_103 : (X.P.underlying 103).isSome = true := by kernel_rfl
theorem us_104 : (X.P.underlying 104).isSome = true := by kernel_rfl
theorem us_107 : (X.P.underlying 107).isSome = true := by kernel_rfl
theorem us_109 : (X.P.underlying 109).isSome = true := by kernel_rfl
theorem us_117 : (X.P.underlying 117).isSome = true := by kernel_rfl
theorem us_121 : (X.P.underlying 121).isSome = true := by kernel_rfl
theorem us_125 : (X.P.underlying 125).isSome = true := by kernel_rfl
attribute [go_sem] tk_2 lay_2 sz_2 tk_3 lay_3 sz_3 tk_4 lay_4 sz_4 tk_5 lay_5 sz_5
attribute [go_sem] tk_9 lay_9 sz_9 tk_12 lay_12 sz_12 tk_22 lay_22 sz_22 tk_24 lay_24 sz_24
attribute [go_sem] bt_24 tk_29 lay_29 sz_29 bt_29 tk_32 lay_32 sz_32 bt_32 tk_34 lay_34 sz_34
attribute [go_sem] tk_35 lay_35 sz_35 tk_37 lay_37 sz_37 bt_37 tk_38 lay_38 sz_38 tk_39 lay_39
attribute [go_sem] sz_39 tk_46 lay_46 sz_46 tk_53 lay_53 sz_53 bt_53 tk_56 lay_56 sz_56 bt_56
attribute [go_sem] tk_57 lay_57 sz_57 tk_61 lay_61 sz_61 tk_69 lay_69 sz_69 tk_70 lay_70 sz_70
attribute [go_sem] mp_70 tk_72 lay_72 sz_72 bt_72 tk_77 lay_77 sz_77 tk_81 lay_81 sz_81 tk_86
attribute [go_sem] lay_86 sz_86 tk_89 lay_89 sz_89 tk_95 lay_95 sz_95 tk_99 lay_99 sz_99 bt_99
attribute [go_sem] tk_101 lay_101 sz_101 bt_101 tk_102 lay_102 sz_102 bt_102 tk_103 lay_103 sz_103 tk_104
attribute [go_sem] lay_104 sz_104 mp_104 tk_107 lay_107 sz_107 tk_109 lay_109 sz_109 tk_117 lay_117 sz_117
attribute [go_sem] tk_121 lay_121 sz_121 tk_125 lay_125 sz_125 us_2 us_3 us_4 us_5 us_9 us_12
attribute [go_sem] us_22 us_24 us_29 us_32 us_34 us_35 us_37 us_38 us_39 us_46 us_53 us_56
attribute [go_sem] us_57 us_61 us_69 us_70 us_72 us_77 us_81 us_86 us_89 us_95 us_99 us_101
attribute [go_sem] us_102 us_103 us_104 us_107 us_109 us_117 us_121 us_125

end Go.Proofs.YtniaafncmnilgaaDoor
