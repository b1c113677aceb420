/-
  PowerTells: whatever the content, the name and the number are, the law returns true, and its arguments read behind the call as they read before. What is listed reads as the row says. The card.
-/
import Derived.Test.YtniaafncmnilgaaDoorR
import Derived.Test.YtniaafncmnilgaaDoorRJ
import Derived.Test.YtniaafncmnilgaaDoorL10G
import Derived.Test.YtniaafncmnilgaaDoorTie
import Derived.Test.YtniaafncmnilgaaDoorCards
import Derived.JoinedOf
import Derived.Lay
import Derived.LaidMore
import Derived.SevenTiedAt
import Derived.OpenShut
import Derived.ProofKit
import Derived.Stop.Joined
set_option linter.unusedSimpArgs false
set_option linter.unusedVariables false
set_option maxRecDepth 100000
namespace Go.Proofs.YtniaafncmnilgaaDoor
open Go Go.AL Go.RowKit Go.ChangeShapes Go.WideShapes Go.ChangeAt

theorem powerTells_lifted (os : Os) (started : os.Started) (H : Type) (enc : TypeId × Value → H) :
    ReturnsInHanded {} Tryd.checked os 6 .any (fun w args => (Rows.powerTellsSpec.pre enc Tryd.prog Tryd.f6 Rows.powerTellsRow.domain false w args ∧ laidMetH Tryd.prog seatLaid w) ∧ sizedMet enc Tryd.prog Tryd.f6 (OpenSpec.ofChange Rows.powerTellsSpec) false w args)
      (Rows.powerTellsSpec.post enc Tryd.prog Tryd.f6 false true false false) := by
  refine wrap_both (C := Tryd.checked) (Y := fun w => laidMetH Tryd.prog seatLaid w) (fun _ _ hh h => h.of_heap hh) own started (by kernel_rfl) Tryd.func6
    (ChangeSpec.witness_shaped (enc := enc) (C := Tryd.checked) (os := os) (X := fun w _ => laidMetH Tryd.prog seatLaid w) false (World.laidAll Tryd.prog os seatLaid) #[.agg #[.int .i64 0, .int .i64 0, .string ⟨#[]⟩, .slice none 0 0, .slice none 0 0], .string ⟨#[]⟩, .int .i64 0] 8 (World.laidAll_os _ _ _)
      (World.shaped_of_ZipB (by kernel_rfl) (by kernel_rfl)) (by kernel_rfl) (by kernel_rfl) (by kernel_rfl)
      (by rw [MakeChecks.laidMetH_plain _ _ _ (by kernel_rfl)]; exact laidMet_laidAll _ (by kernel_rfl) (by kernel_rfl))) ?_
  intro W base args ds gs before hval hW hwt hsh hL
  have hW' := hW
  obtain ⟨p, q, hA0, hV, rfl, hfz, hnd⟩ := hW
  have hA : DataW.TrodAll enc Tryd.prog W 0 (fun _ => true) true Tryd.f6.params.toList args.toList ds p := hA0
  rw [Tryd.params6] at hA hval
  obtain ⟨v0, vs0, d0, ds0, p0, q0, hargs, rfl, rfl, h0, r0⟩ := trodAll_cons hA
  obtain ⟨v1, vs1, d1, ds1, p1, q1, rfl, rfl, rfl, h1, r1⟩ := trodAll_cons r0
  obtain ⟨v2, vs2, d2, ds2, p2, q2, rfl, rfl, rfl, h2, r2⟩ := trodAll_cons r1
  obtain ⟨rfl, rfl, rfl⟩ := trodAll_nil r2
  obtain rfl : args = #[v0, v1, v2] := by cases args; simp_all
  obtain ⟨rfl, rfl⟩ := trodVars_none hV
  rw [Tryd.params6] at hwt
  simp only [List.append_nil] at hW' hwt
  obtain ⟨a0, k0, ⟨c, e0, b0⟩⟩ := val_struct Tryd.underlying37 (hval 0 37 v0 rfl rfl) o_js h0 (light_each hwt 0 rfl rfl)
  obtain ⟨a1, k1, ⟨s, e1, b1⟩⟩ := val_str Tryd.underlying9 (hval 1 9 v1 rfl rfl) o_9 h1 (light_each hwt 1 rfl rfl)
  obtain ⟨a2, k2, ⟨n, e2, b2⟩⟩ := val_int Tryd.underlying2 (hval 2 2 v2 rfl rfl) o_2 h2 (light_each hwt 2 rfl rfl)
  cases e0
  cases e1
  cases e2
  exact calls_true (X := X) (tb := 4) (tells_c c s n AHeap.nil _ rfl) (.cons k0 (.cons k1 (.cons k2 .nil))) (gam hsh hL) hW' laidOut (by kernel_rfl) rfl rfl rfl rfl rfl Tryd.underlying4

theorem powerTells_holds : Rows.PowerTellsSaid :=
  OpenClaim.holds_of_wide 6 Tryd.f6 rfl rfl rfl rfl rfl rfl rfl ⟨rfl, rfl, rfl, rfl, rfl⟩ rfl rfl rfl rfl rfl (by kernel_rfl) Tryd.func6 (by kernel_rfl)
    (of_decide_eq_true (by kernel_rfl)) (by unfold Func.isWrapper; first | (rw [if_pos (by decide +kernel)]; kernel_rfl) | (rw [if_neg (by decide +kernel)]; exact ⟨rfl, rfl⟩))
    (fun os started H enc _ => powerTells_lifted os started H enc)

theorem powerTells_card : Rows.PowerTellsCardSaid :=
  Claim7.holds_tied_plain_at .later [] [.data, .pinned] true (true, "b5379ce6d862b4be32fa56c256c01a4fd1a873030338d27b529c8eb946faf40e") false powerTells_holds (fun _ h => by cases h) (by kernel_rfl) (fun _ h => by cases h) powerTells_row_tie rfl ⟨rfl, rfl⟩ (by kernel_rfl) rfl
    (fun f fn hf hfn => by
      obtain rfl : f = 6 := (Option.some.inj ((show Tryd.prog.funcNamed "agora/agoralaw10.PowerTells" = some 6 by kernel_rfl).symm.trans hf)).symm
      obtain rfl : fn = Tryd.f6 := (Option.some.inj (Tryd.func6.symm.trans hfn)).symm
      exact ⟨by kernel_rfl, fun j t ht => by
        rw [Tryd.params6] at ht
        have hm : t ∈ [37, 9, 2] := by simpa using Array.mem_of_getElem? ht
        have hall : ([37, 9, 2].all fun u => !Tryd.prog.wantsStandIn u) = true := by kernel_rfl
        exact (show Tryd.prog.wantsStandIn t = false by simpa using List.all_eq_true.1 hall t hm)⟩)
    (by kernel_rfl)
end Go.Proofs.YtniaafncmnilgaaDoor
