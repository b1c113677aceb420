/-
  RanksByPower: whatever the past and the places are, the law returns true, and its arguments read behind the call as they read before. What is listed reads as the row says. The card.
-/
import Derived.Test.YtcpfgjfiacfmoaaGreatDoorPPart5
import Derived.Test.YtcpfgjfiacfmoaaGreatDoorPPart12
import Derived.Test.YtcpfgjfiacfmoaaGreatDoorTie
import Derived.Test.YtcpfgjfiacfmoaaGreatDoorCards
import Derived.JoinedOf
import Derived.Lay
import Derived.LaidMore
import Derived.SevenTiedAt
import Derived.OpenShut
import Derived.ProofKit
import Derived.Stop.Joined
import Derived.Test.YtcpfgjfiacfmoaaGreatDoorPAL4
set_option linter.unusedSimpArgs false
set_option linter.unusedVariables false
set_option maxRecDepth 100000
namespace Go.Proofs.YtcpfgjfiacfmoaaGreatDoor
open Go Go.AL Go.RowKit Go.ChangeShapes Go.WideShapes Go.ChangeAt

theorem ranksByPower_lifted (os : Os) (started : os.Started) (H : Type) (enc : TypeId × Value → H) :
    ReturnsInHanded {} Tryz.checked os 5 .any (fun w args => (Rows.ranksByPowerSpec.pre enc Tryz.prog Tryz.f5 Rows.ranksByPowerRow.domain false w args ∧ laidMetH Tryz.prog seatLaid w) ∧ sizedMet enc Tryz.prog Tryz.f5 (OpenSpec.ofChange Rows.ranksByPowerSpec) false w args)
      (Rows.ranksByPowerSpec.post enc Tryz.prog Tryz.f5 false true false false) := by
  refine wrap_both (C := Tryz.checked) (Y := fun w => laidMetH Tryz.prog seatLaid w) (fun _ _ hh h => h.of_heap hh) own started (by kernel_rfl) Tryz.func5
    (ChangeSpec.witness_shaped (enc := enc) (C := Tryz.checked) (os := os) (X := fun w _ => laidMetH Tryz.prog seatLaid w) false (World.laidAll Tryz.prog os seatLaid) #[.agg #[.slice none 0 0, .slice none 0 0, .slice none 0 0, .slice none 0 0, .slice none 0 0], .slice none 0 0] 8 (World.laidAll_os _ _ _)
      (World.shaped_of_ZipB (by kernel_rfl) (by kernel_rfl)) (by kernel_rfl) (by kernel_rfl) (by kernel_rfl)
      (by rw [MakeChecks.laidMetH_plain _ _ _ (by kernel_rfl)]; exact laidMet_laidAll _ (by kernel_rfl) (by kernel_rfl))) ?_
  intro W base args ds gs before hval hW hwt hsh hL
  have hW' := hW
  obtain ⟨p, q, hA0, hV, rfl, hfz, hnd⟩ := hW
  have hA : DataW.TrodAll enc Tryz.prog W 0 (fun _ => true) true Tryz.f5.params.toList args.toList ds p := hA0
  rw [Tryz.params5] at hA hval
  obtain ⟨v0, vs0, d0, ds0, p0, q0, hargs, rfl, rfl, h0, r0⟩ := trodAll_cons hA
  obtain ⟨v1, vs1, d1, ds1, p1, q1, rfl, rfl, rfl, h1, r1⟩ := trodAll_cons r0
  obtain ⟨rfl, rfl, rfl⟩ := trodAll_nil r1
  obtain rfl : args = #[v0, v1] := by cases args; simp_all
  obtain ⟨rfl, rfl⟩ := trodVars_none hV
  rw [Tryz.params5] at hwt
  simp only [List.append_nil] at hW' hwt
  obtain ⟨a0, k0, ⟨p, e0, hw⟩⟩ := val_struct Tryz.underlying35 (hval 0 35 v0 rfl rfl) o_past h0 (light_each hwt 0 rfl rfl)
  obtain ⟨a1, k1, ⟨l, e1, hl⟩⟩ := val_slice Tryz.underlying38 (hval 1 38 v1 rfl rfl) o_ints h1 (light_each hwt 1 rfl rfl)
  cases e0
  cases e1
  exact calls_true (X := X) (tb := 4) (law_byPower p hw false l hl AHeap.nil _ rfl) (.cons k0 (.cons k1 .nil)) (gam hsh hL) hW' laidOut (by kernel_rfl) rfl rfl rfl rfl rfl Tryz.underlying4

theorem ranksByPower_holds : Rows.RanksByPowerSaid :=
  OpenClaim.holds_of_wide 5 Tryz.f5 rfl rfl rfl rfl rfl rfl rfl ⟨rfl, rfl, rfl, rfl, rfl⟩ rfl rfl rfl rfl rfl (by kernel_rfl) Tryz.func5 (by kernel_rfl)
    (of_decide_eq_true (by kernel_rfl)) (by unfold Func.isWrapper; first | (rw [if_pos (by decide +kernel)]; kernel_rfl) | (rw [if_neg (by decide +kernel)]; exact ⟨rfl, rfl⟩))
    (fun os started H enc _ => ranksByPower_lifted os started H enc)

theorem ranksByPower_card : Rows.RanksByPowerCardSaid :=
  Claim7.holds_tied_plain_at .later [] [.data, .pinned] true (true, "c3165010188b75f2f7a46b802563b490a1563292a2f03e788ea598b3317c119a") false ranksByPower_holds (fun _ h => by cases h) (by kernel_rfl) (fun _ h => by cases h) ranksByPower_row_tie rfl ⟨rfl, rfl⟩ (by kernel_rfl) rfl
    (fun f fn hf hfn => by
      obtain rfl : f = 5 := (Option.some.inj ((show Tryz.prog.funcNamed "agora/agoralaw12.RanksByPower" = some 5 by kernel_rfl).symm.trans hf)).symm
      obtain rfl : fn = Tryz.f5 := (Option.some.inj (Tryz.func5.symm.trans hfn)).symm
      exact ⟨by kernel_rfl, fun j t ht => by
        rw [Tryz.params5] at ht
        have hm : t ∈ [35, 38] := by simpa using Array.mem_of_getElem? ht
        have hall : ([35, 38].all fun u => !Tryz.prog.wantsStandIn u) = true := by kernel_rfl
        exact (show Tryz.prog.wantsStandIn t = false by simpa using List.all_eq_true.1 hall t hm)⟩)
    (by kernel_rfl)
end Go.Proofs.YtcpfgjfiacfmoaaGreatDoor
