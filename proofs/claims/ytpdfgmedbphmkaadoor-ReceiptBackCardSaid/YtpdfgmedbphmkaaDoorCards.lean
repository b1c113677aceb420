/-
  DERIVED. GIVEN WITH THE SEED: THE CARDS: each row of YtpdfgmedbphmkaaDoorRows.lean that lists a variable, with what it lists TIED to the program's text (the seventh form; the later family's looks); each row that meets fmt, with fmt's text TOLD by the authors' own Lean function (tested against real Go, not proved from fmt's source: count such statements apart). THE CARD IS WHAT COUNTS. Prove the row's statement (the work); the ties are given (YtpdfgmedbphmkaaDoorTie.lean); close each card by the builder's one call (the guide's Derived/Test/ToyasCard.lean, 'card_holds'). Laid BY PROGRAM, IN A SANDBOX (cutbox-door.mjs). By AI agents, Wed Nov 11 2026. No macro, syntax, notation, axiom, sorry.
-/
import Derived.Test.YtpdfgmedbphmkaaDoorRows
import GoSem.ClaimSeven
namespace Go.Proofs.YtpdfgmedbphmkaaDoor
namespace Rows

/-- THE TIED CARD OF 'agoralaw26.ReceiptBack'. -/
def receiptBackCard : Claim7 := { stood := { row := receiptBackRow, standIns := [], harness := (true, "fa7ee80c356f46bf05f965bef001922cc1841d5edc445f7664b5dde663565d83"), looks := false }, kinds := [], alts := [], laidByText := true, laidKinds := [.data, .pinned], laidTests := true, laidLooks := .later }
def ReceiptBackCardSaid : Prop := Claim7.holds Tryd.pinned (.plain (OpenSpec.ofChange receiptBackSpec)) receiptBackCard

/-- THE SECOND FORM's CARD OF 'agoralaw26.ReceiptBack'. -/
def receiptBackUptoCard : Claim7 := { stood := { row := receiptBackUptoRow, standIns := [], harness := (true, "fa7ee80c356f46bf05f965bef001922cc1841d5edc445f7664b5dde663565d83"), looks := false }, kinds := [], alts := [], laidByText := true, laidKinds := [.data, .pinned], laidTests := true, laidLooks := .later }
def ReceiptBackUptoCardSaid : Prop := Claim7.holds Tryd.pinned (.plain (OpenSpec.upto receiptBackSpec)) receiptBackUptoCard
end Rows
end Go.Proofs.YtpdfgmedbphmkaaDoor
