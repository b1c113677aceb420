/-
  RelateOrder: whatever the row of events, the name and the number are, the law returns true, and each argument reads behind the call as it read before. Conditions: none but the row's own.
-/
import Derived.Test.YtmloandpjbimkaaR25
import Derived.Test.YtmloandpjbimkaaSoC
import Derived.Test.YtmloandpjbimkaaIterB
import Derived.Test.YtmloandpjbimkaaW25W
import Derived.JoinedOf
set_option linter.unusedSimpArgs false
set_option linter.unusedVariables false
set_option maxRecDepth 100000
namespace Go.Proofs.Ytmloandpjbimkaa
open Go Go.AL Go.RowKit Go.ChangeShapes

theorem relateOrder_lifted (os : Os) (started : os.Started) (H : Type) (enc : TypeId × Value → H) :
    ReturnsInHanded {} Try.checked os 7 .any (Rows.relateOrderSpec.pre6 enc Try.prog Try.f7 Rows.relateOrderRow.domain false) (Rows.relateOrderSpec.post enc Try.prog Try.f7 false true false false) := by
  refine returnsInHanded_of_change_shaped (C := Try.checked) own started (by kernel_rfl) Try.func7
    (ChangeSpec.witness6 (enc := enc) (C := Try.checked) false ⟨#[], #[.slice none 0 0, .string ⟨#[]⟩, .int .i64 0], []⟩ 8 (by kernel_rfl) (by kernel_rfl) (by kernel_rfl) (by kernel_rfl)) ?_
  intro W base args ds gs before hval hW _ hwt hsh _
  have hW' := hW
  obtain ⟨p, q, hA0, hV, rfl, hfz, hnd⟩ := hW
  have hA : DataW.TrodAll enc Try.prog W 0 (fun _ => true) true Try.f7.params.toList args.toList ds p := hA0
  rw [Try.params7] at hA hval
  obtain ⟨v0, vs0, d0, ds0, p0, q0, hargs, rfl, rfl, h0, r0⟩ := trodAll_cons hA
  obtain ⟨v1, vs1, d1, ds1, p1, q1, rfl, rfl, rfl, h1, r1⟩ := trodAll_cons r0
  obtain ⟨v2, vs2, d2, ds2, p2, q2, rfl, rfl, rfl, h2, r2⟩ := trodAll_cons r1
  obtain ⟨rfl, rfl, rfl⟩ := trodAll_nil r2
  obtain rfl : args = #[v0, v1, v2] := by cases args; simp_all
  obtain ⟨rfl, rfl⟩ := trodVars_none hV
  rw [Try.params7] at hwt
  simp only [List.append_nil] at hW' hwt
  obtain ⟨a0, k0, ⟨l, e0, b0, c0⟩⟩ := val_slice Try.underlying33 (hval 0 33 v0 rfl rfl) o_kns h0 (light_each hwt 0 rfl rfl)
  obtain ⟨a1, k1, ⟨s, e1, b1⟩⟩ := val_str Try.underlying9 (hval 1 9 v1 rfl rfl) o_s h1 (light_each hwt 1 rfl rfl)
  obtain ⟨a2, k2, ⟨n, e2, b2⟩⟩ := val_int Try.underlying3 (hval 2 3 v2 rfl rfl) o_int h2 (light_each hwt 2 rfl rfl)
  cases e0; cases e1; cases e2
  exact calls_true (X := X) (tb := 4) (relateOrder_c sorts39 Try.sortedKeys l b0 c0 s n AHeap.nil _ rfl) (.cons k0 (.cons k1 (.cons k2 .nil))) (maxCell hsh) hW' laidOut (by kernel_rfl) rfl rfl rfl rfl rfl Try.underlying4

theorem relateOrder_holds : Rows.RelateOrderSaid :=
  OpenClaim.holds_of_wide 7 Try.f7 rfl rfl rfl rfl rfl rfl rfl ⟨rfl, rfl, rfl, rfl, rfl⟩ rfl rfl rfl rfl rfl (by kernel_rfl) Try.func7 (by kernel_rfl)
    (of_decide_eq_true (by kernel_rfl)) (by unfold Func.isWrapper; first | (rw [if_pos (by decide +kernel)]; kernel_rfl) | (rw [if_neg (by decide +kernel)]; exact ⟨rfl, rfl⟩))
    (fun os started H enc _ => relateOrder_lifted os started H enc)
end Go.Proofs.Ytmloandpjbimkaa
