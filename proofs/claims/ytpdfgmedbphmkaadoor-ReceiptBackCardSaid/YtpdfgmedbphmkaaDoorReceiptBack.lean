/-
  ReceiptBack: whatever the marks and the mark are, the law returns true, and its arguments read behind the call as they read before. What is listed reads as the row says. The card.
-/
import Derived.Test.YtpdfgmedbphmkaaDoorR0
import Derived.Test.YtpdfgmedbphmkaaDoorRM
import Derived.Test.YtpdfgmedbphmkaaDoorW26LB
import Derived.Test.YtpdfgmedbphmkaaDoorTie
import Derived.Test.YtpdfgmedbphmkaaDoorCards
import Derived.JoinedOf
import Derived.Lay
import Derived.LaidMore
import Derived.SevenTiedAt
import Derived.OpenShut
import Derived.ProofKit
import Derived.Stop.Joined
set_option linter.unusedSimpArgs false
set_option linter.unusedVariables false
set_option maxRecDepth 100000
namespace Go.Proofs.YtpdfgmedbphmkaaDoor
open Go Go.AL Go.RowKit Go.ChangeShapes Go.WideShapes Go.ChangeAt

theorem receiptBack_lifted (os : Os) (started : os.Started) (H : Type) (enc : TypeId × Value → H) :
    ReturnsInHanded {} Tryd.checked os 3 .any (fun w args => (Rows.receiptBackSpec.pre enc Tryd.prog Tryd.f3 Rows.receiptBackRow.domain false w args ∧ laidMetH Tryd.prog seatLaid w) ∧ sizedMet enc Tryd.prog Tryd.f3 (OpenSpec.ofChange Rows.receiptBackSpec) false w args)
      (Rows.receiptBackSpec.post enc Tryd.prog Tryd.f3 false true false false) := by
  refine wrap_both (C := Tryd.checked) (Y := fun w => laidMetH Tryd.prog seatLaid w) (fun _ _ hh h => h.of_heap hh) own started (by kernel_rfl) Tryd.func3
    (ChangeSpec.witness_shaped (enc := enc) (C := Tryd.checked) (os := os) (X := fun w _ => laidMetH Tryd.prog seatLaid w) false (World.laidAll Tryd.prog os seatLaid) #[.slice none 0 0, .agg #[.string ⟨#[]⟩, .int .i64 0, .int .i64 0]] 8 (World.laidAll_os _ _ _)
      (World.shaped_of_ZipB (by kernel_rfl) (by kernel_rfl)) (by kernel_rfl) (by kernel_rfl) (by kernel_rfl)
      (by rw [MakeChecks.laidMetH_plain _ _ _ (by kernel_rfl)]; exact laidMet_laidAll _ (by kernel_rfl) (by kernel_rfl))) ?_
  intro W base args ds gs before hval hW hwt hsh hL
  have hW' := hW
  obtain ⟨p, q, hA0, hV, rfl, hfz, hnd⟩ := hW
  have hA : DataW.TrodAll enc Tryd.prog W 0 (fun _ => true) true Tryd.f3.params.toList args.toList ds p := hA0
  rw [Tryd.params3] at hA hval
  obtain ⟨v0, vs0, d0, ds0, p0, q0, hargs, rfl, rfl, h0, r0⟩ := trodAll_cons hA
  obtain ⟨v1, vs1, d1, ds1, p1, q1, rfl, rfl, rfl, h1, r1⟩ := trodAll_cons r0
  obtain ⟨rfl, rfl, rfl⟩ := trodAll_nil r1
  obtain rfl : args = #[v0, v1] := by cases args; simp_all
  obtain ⟨rfl, rfl⟩ := trodVars_none hV
  rw [Tryd.params3] at hwt
  simp only [List.append_nil] at hW' hwt
  obtain ⟨a0, k0, ⟨l, e0, b0⟩⟩ := val_slice Tryd.underlying22 (hval 0 22 v0 rfl rfl) o_marks h0 (light_each hwt 0 rfl rfl)
  obtain ⟨a1, k1, ⟨m, e1, b1⟩⟩ := val_struct Tryd.underlying24 (hval 1 24 v1 rfl rfl) o_mark h1 (light_each hwt 1 rfl rfl)
  cases e0
  cases e1
  exact calls_true (X := X) (tb := 4) (rback_c l m) (.cons k0 (.cons k1 .nil)) (gam hsh hL) hW' laidOut (by kernel_rfl) rfl rfl rfl rfl rfl Tryd.underlying4

theorem receiptBack_holds : Rows.ReceiptBackSaid :=
  OpenClaim.holds_of_wide 3 Tryd.f3 rfl rfl rfl rfl rfl rfl rfl ⟨rfl, rfl, rfl, rfl, rfl⟩ rfl rfl rfl rfl rfl (by kernel_rfl) Tryd.func3 (by kernel_rfl)
    (of_decide_eq_true (by kernel_rfl)) (by unfold Func.isWrapper; first | (rw [if_pos (by decide +kernel)]; kernel_rfl) | (rw [if_neg (by decide +kernel)]; exact ⟨rfl, rfl⟩))
    (fun os started H enc _ => receiptBack_lifted os started H enc)

theorem receiptBack_card : Rows.ReceiptBackCardSaid :=
  Claim7.holds_tied_plain_at .later [] [.data, .pinned] true (true, "fa7ee80c356f46bf05f965bef001922cc1841d5edc445f7664b5dde663565d83") false receiptBack_holds (fun _ h => by cases h) (by kernel_rfl) (fun _ h => by cases h) receiptBack_row_tie rfl ⟨rfl, rfl⟩ (by kernel_rfl) rfl
    (fun f fn hf hfn => by
      obtain rfl : f = 3 := (Option.some.inj ((show Tryd.prog.funcNamed "agora/agoralaw26.ReceiptBack" = some 3 by kernel_rfl).symm.trans hf)).symm
      obtain rfl : fn = Tryd.f3 := (Option.some.inj (Tryd.func3.symm.trans hfn)).symm
      exact ⟨by kernel_rfl, fun j t ht => by
        rw [Tryd.params3] at ht
        have hm : t ∈ [22, 24] := by simpa using Array.mem_of_getElem? ht
        have hall : ([22, 24].all fun u => !Tryd.prog.wantsStandIn u) = true := by kernel_rfl
        exact (show Tryd.prog.wantsStandIn t = false by simpa using List.all_eq_true.1 hall t hm)⟩)
    (by kernel_rfl)
end Go.Proofs.YtpdfgmedbphmkaaDoor
