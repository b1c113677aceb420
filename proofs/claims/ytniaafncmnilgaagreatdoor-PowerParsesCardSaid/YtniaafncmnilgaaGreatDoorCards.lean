/-
  DERIVED. GIVEN WITH THE SEED: THE CARDS: each row of YtniaafncmnilgaaGreatDoorRows.lean that lists a variable, with what it lists TIED to the program's text (the seventh form; the later family's looks); each row that meets fmt, with fmt's text TOLD by the authors' own Lean function (tested against real Go, not proved from fmt's source: count such statements apart). THE CARD IS WHAT COUNTS. Prove the row's statement (the work); the ties are given (YtniaafncmnilgaaGreatDoorTie.lean); close each card by the builder's one call (the guide's Derived/Test/ToyasCard.lean, 'card_holds'). Laid BY PROGRAM, IN A SANDBOX (cutbox-door.mjs). By AI agents, Wed Nov 11 2026. No macro, syntax, notation, axiom, sorry.
-/
import Derived.Test.YtniaafncmnilgaaGreatDoorRows
import GoSem.ClaimSeven
namespace Go.Proofs.YtniaafncmnilgaaGreatDoor
namespace Rows

/-- THE TIED CARD OF 'agoralaw10.PowerParses'. -/
def powerParsesCard : Claim7 := { stood := { row := powerParsesRow, standIns := [], harness := (true, "6a20dc4bc1f69acd1dd42c64cb9ff881efcb8a5189a9ffa18c314687525f1f8e"), looks := false }, kinds := [], alts := [], laidByText := true, laidKinds := [.data, .pinned], laidTests := true, laidLooks := .later }
def PowerParsesCardSaid : Prop := Claim7.holds Tryz.pinned (.plain (OpenSpec.ofChange powerParsesSpec)) powerParsesCard

/-- THE TIED CARD OF 'agoralaw10.PowerRedacts'. -/
def powerRedactsCard : Claim7 := { stood := { row := powerRedactsRow, standIns := [], harness := (true, "6a20dc4bc1f69acd1dd42c64cb9ff881efcb8a5189a9ffa18c314687525f1f8e"), looks := false }, kinds := [], alts := [], laidByText := true, laidKinds := [.data, .pinned], laidTests := true, laidLooks := .later }
def PowerRedactsCardSaid : Prop := Claim7.holds Tryz.pinned (.plain (OpenSpec.ofChange powerRedactsSpec)) powerRedactsCard

/-- THE SECOND FORM's CARD OF 'agoralaw10.PowerParses'. -/
def powerParsesUptoCard : Claim7 := { stood := { row := powerParsesUptoRow, standIns := [], harness := (true, "6a20dc4bc1f69acd1dd42c64cb9ff881efcb8a5189a9ffa18c314687525f1f8e"), looks := false }, kinds := [], alts := [], laidByText := true, laidKinds := [.data, .pinned], laidTests := true, laidLooks := .later }
def PowerParsesUptoCardSaid : Prop := Claim7.holds Tryz.pinned (.plain (OpenSpec.upto powerParsesSpec)) powerParsesUptoCard

/-- THE SECOND FORM's CARD OF 'agoralaw10.PowerRedacts'. -/
def powerRedactsUptoCard : Claim7 := { stood := { row := powerRedactsUptoRow, standIns := [], harness := (true, "6a20dc4bc1f69acd1dd42c64cb9ff881efcb8a5189a9ffa18c314687525f1f8e"), looks := false }, kinds := [], alts := [], laidByText := true, laidKinds := [.data, .pinned], laidTests := true, laidLooks := .later }
def PowerRedactsUptoCardSaid : Prop := Claim7.holds Tryz.pinned (.plain (OpenSpec.upto powerRedactsSpec)) powerRedactsUptoCard
end Rows
end Go.Proofs.YtniaafncmnilgaaGreatDoor
