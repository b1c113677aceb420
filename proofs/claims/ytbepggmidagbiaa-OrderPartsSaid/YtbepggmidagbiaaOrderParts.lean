/-
  OrderParts: whatever the rows are, the law returns true, and its argument reads behind the call as it read before. Conditions: none but the row's own.
-/
import Derived.Test.YtbepggmidagbiaaR
import Derived.Test.YtbepggmidagbiaaLe
import Derived.JoinedOf
set_option linter.unusedSimpArgs false
set_option linter.unusedVariables false
set_option maxRecDepth 100000
namespace Go.Proofs.Ytbepggmidagbiaa
open Go Go.AL Go.RowKit Go.ChangeShapes

theorem orderParts_lifted (os : Os) (started : os.Started) (H : Type) (enc : TypeId × Value → H) :
    ReturnsInHanded {} Try.checked os 9 .any (Rows.orderPartsSpec.pre6 enc Try.prog Try.f9 Rows.orderPartsRow.domain false) (Rows.orderPartsSpec.post enc Try.prog Try.f9 false true false false) := by
  refine returnsInHanded_of_change_shaped (C := Try.checked) own started (by kernel_rfl) Try.func9
    (ChangeSpec.witness6 (enc := enc) (C := Try.checked) false ⟨#[], #[.slice none 0 0], []⟩ 8 (by kernel_rfl) (by kernel_rfl) (by kernel_rfl) (by kernel_rfl)) ?_
  intro W base args ds gs before hval hW _ hwt hsh _
  have hW' := hW
  obtain ⟨p, q, hA0, hV, rfl, hfz, hnd⟩ := hW
  have hA : DataW.TrodAll enc Try.prog W 0 (fun _ => true) true Try.f9.params.toList args.toList ds p := hA0
  rw [Try.params9] at hA hval
  obtain ⟨v0, vs0, d0, ds0, p0, q0, hargs, rfl, rfl, h0, r0⟩ := trodAll_cons hA
  obtain ⟨rfl, rfl, rfl⟩ := trodAll_nil r0
  obtain rfl : args = #[v0] := by cases args; simp_all
  obtain ⟨rfl, rfl⟩ := trodVars_none hV
  rw [Try.params9] at hwt
  simp only [List.append_nil] at hW' hwt
  obtain ⟨a0, k0, ⟨P, e0, b0, c0⟩⟩ := val_slice Try.underlying22 (hval 0 22 v0 rfl rfl) o_22 h0 (light_each hwt 0 rfl rfl)
  cases e0
  exact calls_true (X := X) (tb := 4) (f9_c P b0 AHeap.nil) (.cons k0 .nil) (maxCell hsh) hW' laidOut (by kernel_rfl) rfl rfl rfl rfl rfl Try.underlying4

theorem orderParts_holds : Rows.OrderPartsSaid :=
  OpenClaim.holds_of_wide 9 Try.f9 rfl rfl rfl rfl rfl rfl rfl ⟨rfl, rfl, rfl, rfl, rfl⟩ rfl rfl rfl rfl rfl (by kernel_rfl) Try.func9 (by kernel_rfl)
    (of_decide_eq_true (by kernel_rfl)) (by unfold Func.isWrapper; first | (rw [if_pos (by decide +kernel)]; kernel_rfl) | (rw [if_neg (by decide +kernel)]; exact ⟨rfl, rfl⟩))
    (fun os started H enc _ => orderParts_lifted os started H enc)
end Go.Proofs.Ytbepggmidagbiaa
