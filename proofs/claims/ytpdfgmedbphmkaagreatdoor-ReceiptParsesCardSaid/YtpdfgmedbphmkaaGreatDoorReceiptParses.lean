/-
  ReceiptParses: whatever the content is, the law returns true, and its argument reads behind the call as it read before. What is listed reads as the row says. The card.
-/
import Derived.Test.YtpdfgmedbphmkaaGreatDoorR0
import Derived.Test.YtpdfgmedbphmkaaGreatDoorRJ
import Derived.Test.YtpdfgmedbphmkaaGreatDoorW26LP
import Derived.Test.YtpdfgmedbphmkaaGreatDoorTie
import Derived.Test.YtpdfgmedbphmkaaGreatDoorCards
import Derived.JoinedOf
import Derived.Lay
import Derived.LaidMore
import Derived.SevenTiedAt
import Derived.OpenShut
import Derived.ProofKit
import Derived.Stop.Joined
set_option linter.unusedSimpArgs false
set_option linter.unusedVariables false
set_option maxRecDepth 100000
namespace Go.Proofs.YtpdfgmedbphmkaaGreatDoor
open Go Go.AL Go.RowKit Go.ChangeShapes Go.WideShapes Go.ChangeAt

theorem receiptParses_lifted (os : Os) (started : os.Started) (H : Type) (enc : TypeId × Value → H) :
    ReturnsInHanded {} Tryz.checked os 3 .any (fun w args => (Rows.receiptParsesSpec.pre enc Tryz.prog Tryz.f3 Rows.receiptParsesRow.domain false w args ∧ laidMetH Tryz.prog seatLaid w) ∧ sizedMet enc Tryz.prog Tryz.f3 (OpenSpec.ofChange Rows.receiptParsesSpec) false w args)
      (Rows.receiptParsesSpec.post enc Tryz.prog Tryz.f3 false true false false) := by
  refine wrap_both (C := Tryz.checked) (Y := fun w => laidMetH Tryz.prog seatLaid w) (fun _ _ hh h => h.of_heap hh) own started (by kernel_rfl) Tryz.func3
    (ChangeSpec.witness_shaped (enc := enc) (C := Tryz.checked) (os := os) (X := fun w _ => laidMetH Tryz.prog seatLaid w) false (World.laidAll Tryz.prog os seatLaid) #[.agg #[.int .i64 0, .int .i64 0, .string ⟨#[]⟩, .slice none 0 0, .slice none 0 0]] 8 (World.laidAll_os _ _ _)
      (World.shaped_of_ZipB (by kernel_rfl) (by kernel_rfl)) (by kernel_rfl) (by kernel_rfl) (by kernel_rfl)
      (by rw [MakeChecks.laidMetH_plain _ _ _ (by kernel_rfl)]; exact laidMet_laidAll _ (by kernel_rfl) (by kernel_rfl))) ?_
  intro W base args ds gs before hval hW hwt hsh hL
  have hW' := hW
  obtain ⟨p, q, hA0, hV, rfl, hfz, hnd⟩ := hW
  have hA : DataW.TrodAll enc Tryz.prog W 0 (fun _ => true) true Tryz.f3.params.toList args.toList ds p := hA0
  rw [Tryz.params3] at hA hval
  obtain ⟨v0, vs0, d0, ds0, p0, q0, hargs, rfl, rfl, h0, r0⟩ := trodAll_cons hA
  obtain ⟨rfl, rfl, rfl⟩ := trodAll_nil r0
  obtain rfl : args = #[v0] := by cases args; simp_all
  obtain ⟨rfl, rfl⟩ := trodVars_none hV
  rw [Tryz.params3] at hwt
  simp only [List.append_nil] at hW' hwt
  obtain ⟨a0, k0, ⟨c, e0, b0⟩⟩ := val_struct Tryz.underlying25 (hval 0 25 v0 rfl rfl) o_js h0 (light_each hwt 0 rfl rfl)
  cases e0
  exact calls_true (X := X) (tb := 4) (rparses_c c AHeap.nil _ rfl) (.cons k0 .nil) (gam hsh hL) hW' laidOut (by kernel_rfl) rfl rfl rfl rfl rfl Tryz.underlying4

theorem receiptParses_holds : Rows.ReceiptParsesSaid :=
  OpenClaim.holds_of_wide 3 Tryz.f3 rfl rfl rfl rfl rfl rfl rfl ⟨rfl, rfl, rfl, rfl, rfl⟩ rfl rfl rfl rfl rfl (by kernel_rfl) Tryz.func3 (by kernel_rfl)
    (of_decide_eq_true (by kernel_rfl)) (by unfold Func.isWrapper; first | (rw [if_pos (by decide +kernel)]; kernel_rfl) | (rw [if_neg (by decide +kernel)]; exact ⟨rfl, rfl⟩))
    (fun os started H enc _ => receiptParses_lifted os started H enc)

theorem receiptParses_card : Rows.ReceiptParsesCardSaid :=
  Claim7.holds_tied_plain_at .later [] [.data, .pinned] true (true, "39e1572a1199c79c7231bec559949b7a81b1a68214873446c9bc2d2aa20ffacb") false receiptParses_holds (fun _ h => by cases h) (by kernel_rfl) (fun _ h => by cases h) receiptParses_row_tie rfl ⟨rfl, rfl⟩ (by kernel_rfl) rfl
    (fun f fn hf hfn => by
      obtain rfl : f = 3 := (Option.some.inj ((show Tryz.prog.funcNamed "agora/agoralaw26.ReceiptParses" = some 3 by kernel_rfl).symm.trans hf)).symm
      obtain rfl : fn = Tryz.f3 := (Option.some.inj (Tryz.func3.symm.trans hfn)).symm
      exact ⟨by kernel_rfl, fun j t ht => by
        rw [Tryz.params3] at ht
        have hm : t ∈ [25] := by simpa using Array.mem_of_getElem? ht
        have hall : ([25].all fun u => !Tryz.prog.wantsStandIn u) = true := by kernel_rfl
        exact (show Tryz.prog.wantsStandIn t = false by simpa using List.all_eq_true.1 hall t hm)⟩)
    (by kernel_rfl)
end Go.Proofs.YtpdfgmedbphmkaaGreatDoor
