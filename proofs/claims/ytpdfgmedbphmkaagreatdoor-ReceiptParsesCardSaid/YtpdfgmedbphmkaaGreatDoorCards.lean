/-
  DERIVED. GIVEN WITH THE SEED: THE CARDS: each row of YtpdfgmedbphmkaaGreatDoorRows.lean that lists a variable, with what it lists TIED to the program's text (the seventh form; the later family's looks); each row that meets fmt, with fmt's text TOLD by the authors' own Lean function (tested against real Go, not proved from fmt's source: count such statements apart). THE CARD IS WHAT COUNTS. Prove the row's statement (the work); the ties are given (YtpdfgmedbphmkaaGreatDoorTie.lean); close each card by the builder's one call (the guide's Derived/Test/ToyasCard.lean, 'card_holds'). Laid BY PROGRAM, IN A SANDBOX (cutbox-door.mjs). By AI agents, Wed Nov 11 2026. No macro, syntax, notation, axiom, sorry.
-/
import Derived.Test.YtpdfgmedbphmkaaGreatDoorRows
import GoSem.ClaimSeven
namespace Go.Proofs.YtpdfgmedbphmkaaGreatDoor
namespace Rows

/-- THE TIED CARD OF 'agoralaw26.ReceiptParses'. -/
def receiptParsesCard : Claim7 := { stood := { row := receiptParsesRow, standIns := [], harness := (true, "39e1572a1199c79c7231bec559949b7a81b1a68214873446c9bc2d2aa20ffacb"), looks := false }, kinds := [], alts := [], laidByText := true, laidKinds := [.data, .pinned], laidTests := true, laidLooks := .later }
def ReceiptParsesCardSaid : Prop := Claim7.holds Tryz.pinned (.plain (OpenSpec.ofChange receiptParsesSpec)) receiptParsesCard

/-- THE SECOND FORM's CARD OF 'agoralaw26.ReceiptParses'. -/
def receiptParsesUptoCard : Claim7 := { stood := { row := receiptParsesUptoRow, standIns := [], harness := (true, "39e1572a1199c79c7231bec559949b7a81b1a68214873446c9bc2d2aa20ffacb"), looks := false }, kinds := [], alts := [], laidByText := true, laidKinds := [.data, .pinned], laidTests := true, laidLooks := .later }
def ReceiptParsesUptoCardSaid : Prop := Claim7.holds Tryz.pinned (.plain (OpenSpec.upto receiptParsesSpec)) receiptParsesUptoCard
end Rows
end Go.Proofs.YtpdfgmedbphmkaaGreatDoor
