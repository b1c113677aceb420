/-
  ReceiptPlays: whatever the marks, the user and the senders are, the law returns true, and each argument reads behind the call as it read before. Conditions: none but the row's own.
-/
import Derived.Test.YtpdfgmedbphmkaaR
import Derived.Test.YtpdfgmedbphmkaaY
import Derived.JoinedOf
set_option linter.unusedSimpArgs false
set_option linter.unusedVariables false
set_option maxRecDepth 100000
namespace Go.Proofs.Ytpdfgmedbphmkaa
open Go Go.AL Go.RowKit Go.ChangeShapes

theorem receiptPlays_lifted (os : Os) (started : os.Started) (H : Type) (enc : TypeId × Value → H) :
    ReturnsInHanded {} Try.checked os 6 .any (Rows.receiptPlaysSpec.pre6 enc Try.prog Try.f6 Rows.receiptPlaysRow.domain false) (Rows.receiptPlaysSpec.post enc Try.prog Try.f6 false true false false) := by
  refine returnsInHanded_of_change_shaped (C := Try.checked) own started (by kernel_rfl) Try.func6
    (ChangeSpec.witness6 (enc := enc) (C := Try.checked) false ⟨#[], #[.slice none 0 0, .string ⟨#[]⟩, .slice none 0 0], []⟩ 8 (by kernel_rfl) (by kernel_rfl) (by kernel_rfl) (by kernel_rfl)) ?_
  intro W base args ds gs before hval hW _ hwt hsh _
  have hW' := hW
  obtain ⟨p, q, hA0, hV, rfl, hfz, hnd⟩ := hW
  have hA : DataW.TrodAll enc Try.prog W 0 (fun _ => true) true Try.f6.params.toList args.toList ds p := hA0
  rw [Try.params6] at hA hval
  obtain ⟨v0, vs0, d0, ds0, p0, q0, hargs, rfl, rfl, h0, r0⟩ := trodAll_cons hA
  obtain ⟨v1, vs1, d1, ds1, p1, q1, rfl, rfl, rfl, h1, r1⟩ := trodAll_cons r0
  obtain ⟨v2, vs2, d2, ds2, p2, q2, rfl, rfl, rfl, h2, r2⟩ := trodAll_cons r1
  obtain ⟨rfl, rfl, rfl⟩ := trodAll_nil r2
  obtain rfl : args = #[v0, v1, v2] := by cases args; simp_all
  obtain ⟨rfl, rfl⟩ := trodVars_none hV
  rw [Try.params6] at hwt
  simp only [List.append_nil] at hW' hwt
  obtain ⟨a0, k0, ⟨x, e0, _⟩⟩ := val_slice Try.underlying22 (hval 0 22 v0 rfl rfl) o_22 h0 (light_each hwt 0 rfl rfl)
  obtain ⟨a1, k1, ⟨u, e1, hu⟩⟩ := val_str Try.underlying9 (hval 1 9 v1 rfl rfl) o_9 h1 (light_each hwt 1 rfl rfl)
  obtain ⟨a2, k2, ⟨S, e2, _⟩⟩ := val_slice Try.underlying24 (hval 2 24 v2 rfl rfl) o_24 h2 (light_each hwt 2 rfl rfl)
  cases e0; cases e2
  obtain rfl : a1 = .s u := by simpa [bytesCells] using e1
  exact calls_true (X := X) (tb := 4) (f6_c x u S (Nat.le_trans hu (by decide))) (.cons k0 (.cons k1 (.cons k2 .nil))) (maxCell hsh) hW' laidOut (by kernel_rfl) rfl rfl rfl rfl rfl Try.underlying4

theorem receiptPlays_holds : Rows.ReceiptPlaysSaid :=
  OpenClaim.holds_of_wide 6 Try.f6 rfl rfl rfl rfl rfl rfl rfl ⟨rfl, rfl, rfl, rfl, rfl⟩ rfl rfl rfl rfl rfl (by kernel_rfl) Try.func6 (by kernel_rfl)
    (of_decide_eq_true (by kernel_rfl)) (by unfold Func.isWrapper; first | (rw [if_pos (by decide +kernel)]; kernel_rfl) | (rw [if_neg (by decide +kernel)]; exact ⟨rfl, rfl⟩))
    (fun os started H enc _ => receiptPlays_lifted os started H enc)
end Go.Proofs.Ytpdfgmedbphmkaa
