/-
  RelateOf: whatever the event is, the law returns true, and each argument reads behind the call as it read before. Conditions: none but the row's own.
-/
import Derived.Test.YtmloandpjbimkaaR25
import Derived.Test.YtmloandpjbimkaaSoC
import Derived.Test.YtmloandpjbimkaaIterB
import Derived.Test.YtmloandpjbimkaaW25Q
import Derived.JoinedOf
set_option linter.unusedSimpArgs false
set_option linter.unusedVariables false
set_option maxRecDepth 100000
namespace Go.Proofs.Ytmloandpjbimkaa
open Go Go.AL Go.RowKit Go.ChangeShapes

theorem relateOf_lifted (os : Os) (started : os.Started) (H : Type) (enc : TypeId × Value → H) :
    ReturnsInHanded {} Try.checked os 3 .any (Rows.relateOfSpec.pre6 enc Try.prog Try.f3 Rows.relateOfRow.domain false) (Rows.relateOfSpec.post enc Try.prog Try.f3 false true false false) := by
  refine returnsInHanded_of_change_shaped (C := Try.checked) own started (by kernel_rfl) Try.func3
    (ChangeSpec.witness6 (enc := enc) (C := Try.checked) false ⟨#[], #[.agg #[.string ⟨#[]⟩, .string ⟨#[]⟩, .string ⟨#[]⟩, .bool false, .string ⟨#[]⟩, .int .i64 0, .int .i64 0, .string ⟨#[]⟩, .slice none 0 0, .slice none 0 0, .slice none 0 0, .slice none 0 0, .int .i64 0, .int .i64 0, .string ⟨#[]⟩, .slice none 0 0]], []⟩ 8 (by kernel_rfl) (by kernel_rfl) (by kernel_rfl) (by kernel_rfl)) ?_
  intro W base args ds gs before hval hW _ hwt hsh _
  have hW' := hW
  obtain ⟨p, q, hA0, hV, rfl, hfz, hnd⟩ := hW
  have hA : DataW.TrodAll enc Try.prog W 0 (fun _ => true) true Try.f3.params.toList args.toList ds p := hA0
  rw [Try.params3] at hA hval
  obtain ⟨v0, vs0, d0, ds0, p0, q0, hargs, rfl, rfl, h0, r0⟩ := trodAll_cons hA
  obtain ⟨rfl, rfl, rfl⟩ := trodAll_nil r0
  obtain rfl : args = #[v0] := by cases args; simp_all
  obtain ⟨rfl, rfl⟩ := trodVars_none hV
  rw [Try.params3] at hwt
  simp only [List.append_nil] at hW' hwt
  obtain ⟨a0, k0, ⟨e, rfl, b0⟩⟩ := val_struct Try.underlying28 (hval 0 28 v0 rfl rfl) o_ev h0 (light_each hwt 0 rfl rfl)
  exact calls_true (X := X) (tb := 4) (relateOf_c sorts39 Try.sortedKeys ⟨[], e⟩ b0 AHeap.nil _ rfl) (.cons k0 .nil) (maxCell hsh) hW' laidOut (by kernel_rfl) rfl rfl rfl rfl rfl Try.underlying4

theorem relateOf_holds : Rows.RelateOfSaid :=
  OpenClaim.holds_of_wide 3 Try.f3 rfl rfl rfl rfl rfl rfl rfl ⟨rfl, rfl, rfl, rfl, rfl⟩ rfl rfl rfl rfl rfl (by kernel_rfl) Try.func3 (by kernel_rfl)
    (of_decide_eq_true (by kernel_rfl)) (by unfold Func.isWrapper; first | (rw [if_pos (by decide +kernel)]; kernel_rfl) | (rw [if_neg (by decide +kernel)]; exact ⟨rfl, rfl⟩))
    (fun os started H enc _ => relateOf_lifted os started H enc)
end Go.Proofs.Ytmloandpjbimkaa
