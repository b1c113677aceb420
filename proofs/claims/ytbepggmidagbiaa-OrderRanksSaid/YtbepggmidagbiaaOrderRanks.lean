/-
  OrderRanks: whatever the ranks are, the law returns true, and its argument reads behind the call as it read before. Conditions: none but the row's own.
-/
import Derived.Test.YtbepggmidagbiaaR
import Derived.Test.YtbepggmidagbiaaLc
import Derived.JoinedOf
set_option linter.unusedSimpArgs false
set_option linter.unusedVariables false
set_option maxRecDepth 100000
namespace Go.Proofs.Ytbepggmidagbiaa
open Go Go.AL Go.RowKit Go.ChangeShapes

theorem orderRanks_lifted (os : Os) (started : os.Started) (H : Type) (enc : TypeId × Value → H) :
    ReturnsInHanded {} Try.checked os 6 .any (Rows.orderRanksSpec.pre6 enc Try.prog Try.f6 Rows.orderRanksRow.domain false) (Rows.orderRanksSpec.post enc Try.prog Try.f6 false true false false) := by
  refine returnsInHanded_of_change_shaped (C := Try.checked) own started (by kernel_rfl) Try.func6
    (ChangeSpec.witness6 (enc := enc) (C := Try.checked) false ⟨#[], #[.slice none 0 0], []⟩ 8 (by kernel_rfl) (by kernel_rfl) (by kernel_rfl) (by kernel_rfl)) ?_
  intro W base args ds gs before hval hW _ hwt hsh _
  have hW' := hW
  obtain ⟨p, q, hA0, hV, rfl, hfz, hnd⟩ := hW
  have hA : DataW.TrodAll enc Try.prog W 0 (fun _ => true) true Try.f6.params.toList args.toList ds p := hA0
  rw [Try.params6] at hA hval
  obtain ⟨v0, vs0, d0, ds0, p0, q0, hargs, rfl, rfl, h0, r0⟩ := trodAll_cons hA
  obtain ⟨rfl, rfl, rfl⟩ := trodAll_nil r0
  obtain rfl : args = #[v0] := by cases args; simp_all
  obtain ⟨rfl, rfl⟩ := trodVars_none hV
  rw [Try.params6] at hwt
  simp only [List.append_nil] at hW' hwt
  obtain ⟨a0, k0, ⟨R, e1, b1, c1⟩⟩ := val_slice Try.underlying23 (hval 0 23 v0 rfl rfl) o_23 h0 (light_each hwt 0 rfl rfl)
  cases e1
  exact calls_true (X := X) (tb := 4) (f6_c R b1 AHeap.nil) (.cons k0 .nil) (maxCell hsh) hW' laidOut (by kernel_rfl) rfl rfl rfl rfl rfl Try.underlying4

theorem orderRanks_holds : Rows.OrderRanksSaid :=
  OpenClaim.holds_of_wide 6 Try.f6 rfl rfl rfl rfl rfl rfl rfl ⟨rfl, rfl, rfl, rfl, rfl⟩ rfl rfl rfl rfl rfl (by kernel_rfl) Try.func6 (by kernel_rfl)
    (of_decide_eq_true (by kernel_rfl)) (by unfold Func.isWrapper; first | (rw [if_pos (by decide +kernel)]; kernel_rfl) | (rw [if_neg (by decide +kernel)]; exact ⟨rfl, rfl⟩))
    (fun os started H enc _ => orderRanks_lifted os started H enc)
end Go.Proofs.Ytbepggmidagbiaa
