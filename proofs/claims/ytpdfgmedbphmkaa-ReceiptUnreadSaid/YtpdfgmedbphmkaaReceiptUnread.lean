/-
  ReceiptUnread: whatever the marks, the two users and the senders are, the law returns true, and each argument reads behind the call as it read before. Conditions: none but the row's own.
-/
import Derived.Test.YtpdfgmedbphmkaaR
import Derived.Test.YtpdfgmedbphmkaaI
import Derived.JoinedOf
set_option linter.unusedSimpArgs false
set_option linter.unusedVariables false
set_option maxRecDepth 100000
namespace Go.Proofs.Ytpdfgmedbphmkaa
open Go Go.AL Go.RowKit Go.ChangeShapes

theorem receiptUnread_lifted (os : Os) (started : os.Started) (H : Type) (enc : TypeId × Value → H) :
    ReturnsInHanded {} Try.checked os 3 .any (Rows.receiptUnreadSpec.pre6 enc Try.prog Try.f3 Rows.receiptUnreadRow.domain false) (Rows.receiptUnreadSpec.post enc Try.prog Try.f3 false true false false) := by
  refine returnsInHanded_of_change_shaped (C := Try.checked) own started (by kernel_rfl) Try.func3
    (ChangeSpec.witness6 (enc := enc) (C := Try.checked) false ⟨#[], #[.slice none 0 0, .agg #[.string ⟨#[]⟩, .string ⟨#[]⟩], .slice none 0 0], []⟩ 8 (by kernel_rfl) (by kernel_rfl) (by kernel_rfl) (by kernel_rfl)) ?_
  intro W base args ds gs before hval hW _ hwt hsh _
  have hW' := hW
  obtain ⟨p, q, hA0, hV, rfl, hfz, hnd⟩ := hW
  have hA : DataW.TrodAll enc Try.prog W 0 (fun _ => true) true Try.f3.params.toList args.toList ds p := hA0
  rw [Try.params3] at hA hval
  obtain ⟨v0, v1, v2, d0, d1, d2, p0, p1, p2, rfl, rfl, rfl, h0, h1, h2⟩ := trodAll_three hA
  obtain ⟨rfl, rfl⟩ := trodVars_none hV
  rw [Try.params3] at hwt
  simp only [List.append_nil] at hW' hwt
  obtain ⟨a0, k0, ⟨l, e0, _⟩⟩ := val_slice Try.underlying22 (hval 0 22 v0 rfl rfl) o_22 h0 (light_each hwt 0 rfl rfl)
  obtain ⟨a1, k1, ⟨u, o, rfl, hu, ho⟩⟩ := val_array Try.underlying23 (hval 1 23 v1 rfl rfl) o_23 h1 (light_each hwt 1 rfl rfl)
  obtain ⟨a2, k2, ⟨S, e2, _⟩⟩ := val_slice Try.underlying24 (hval 2 24 v2 rfl rfl) o_24 h2 (light_each hwt 2 rfl rfl)
  cases e0; cases e2
  exact calls_true (X := X) (tb := 4) (f3_c l u o S (Nat.le_trans hu (by decide)) (Nat.le_trans ho (by decide))) (.cons k0 (.cons k1 (.cons k2 .nil))) (maxCell hsh) hW' laidOut (by kernel_rfl) rfl rfl rfl rfl rfl Try.underlying4

theorem receiptUnread_holds : Rows.ReceiptUnreadSaid :=
  OpenClaim.holds_of_wide 3 Try.f3 rfl rfl rfl rfl rfl rfl rfl ⟨rfl, rfl, rfl, rfl, rfl⟩ rfl rfl rfl rfl rfl (by kernel_rfl) Try.func3 (by kernel_rfl)
    (of_decide_eq_true (by kernel_rfl)) (by unfold Func.isWrapper; first | (rw [if_pos (by decide +kernel)]; kernel_rfl) | (rw [if_neg (by decide +kernel)]; exact ⟨rfl, rfl⟩))
    (fun os started H enc _ => receiptUnread_lifted os started H enc)
end Go.Proofs.Ytpdfgmedbphmkaa
