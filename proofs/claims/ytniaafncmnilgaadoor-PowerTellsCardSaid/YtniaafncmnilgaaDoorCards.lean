/-
  DERIVED. GIVEN WITH THE SEED: THE CARDS: each row of YtniaafncmnilgaaDoorRows.lean that lists a variable, with what it lists TIED to the program's text (the seventh form; the later family's looks); each row that meets fmt, with fmt's text TOLD by the authors' own Lean function (tested against real Go, not proved from fmt's source: count such statements apart). THE CARD IS WHAT COUNTS. Prove the row's statement (the work); the ties are given (YtniaafncmnilgaaDoorTie.lean); close each card by the builder's one call (the guide's Derived/Test/ToyasCard.lean, 'card_holds'). Laid BY PROGRAM, IN A SANDBOX (cutbox-door.mjs). By AI agents, Wed Nov 11 2026. No macro, syntax, notation, axiom, sorry.
-/
import Derived.Test.YtniaafncmnilgaaDoorRows
import GoSem.ClaimSeven
namespace Go.Proofs.YtniaafncmnilgaaDoor
namespace Rows

/-- THE TIED CARD OF 'agoralaw10.PowerMay'. -/
def powerMayCard : Claim7 := { stood := { row := powerMayRow, standIns := [], harness := (true, "b5379ce6d862b4be32fa56c256c01a4fd1a873030338d27b529c8eb946faf40e"), looks := false }, kinds := [], alts := [], laidByText := true, laidKinds := [.data, .pinned], laidTests := true, laidLooks := .later }
def PowerMayCardSaid : Prop := Claim7.holds Tryd.pinned (.plain (OpenSpec.ofChange powerMaySpec)) powerMayCard

/-- THE TIED CARD OF 'agoralaw10.PowerStays'. -/
def powerStaysCard : Claim7 := { stood := { row := powerStaysRow, standIns := [], harness := (true, "b5379ce6d862b4be32fa56c256c01a4fd1a873030338d27b529c8eb946faf40e"), looks := false }, kinds := [], alts := [], laidByText := true, laidKinds := [.data, .pinned], laidTests := true, laidLooks := .later }
def PowerStaysCardSaid : Prop := Claim7.holds Tryd.pinned (.plain (OpenSpec.ofChange powerStaysSpec)) powerStaysCard

/-- THE TIED CARD OF 'agoralaw10.PowerLifts'. -/
def powerLiftsCard : Claim7 := { stood := { row := powerLiftsRow, standIns := [], harness := (true, "b5379ce6d862b4be32fa56c256c01a4fd1a873030338d27b529c8eb946faf40e"), looks := false }, kinds := [], alts := [], laidByText := true, laidKinds := [.data, .pinned], laidTests := true, laidLooks := .later }
def PowerLiftsCardSaid : Prop := Claim7.holds Tryd.pinned (.plain (OpenSpec.ofChange powerLiftsSpec)) powerLiftsCard

/-- THE TIED CARD OF 'agoralaw10.PowerTells'. -/
def powerTellsCard : Claim7 := { stood := { row := powerTellsRow, standIns := [], harness := (true, "b5379ce6d862b4be32fa56c256c01a4fd1a873030338d27b529c8eb946faf40e"), looks := false }, kinds := [], alts := [], laidByText := true, laidKinds := [.data, .pinned], laidTests := true, laidLooks := .later }
def PowerTellsCardSaid : Prop := Claim7.holds Tryd.pinned (.plain (OpenSpec.ofChange powerTellsSpec)) powerTellsCard

/-- THE TIED CARD OF 'agoralaw10.PowerLevels'. -/
def powerLevelsCard : Claim7 := { stood := { row := powerLevelsRow, standIns := [], harness := (true, "b5379ce6d862b4be32fa56c256c01a4fd1a873030338d27b529c8eb946faf40e"), looks := false }, kinds := [], alts := [], laidByText := true, laidKinds := [.data, .pinned], laidTests := true, laidLooks := .later }
def PowerLevelsCardSaid : Prop := Claim7.holds Tryd.pinned (.plain (OpenSpec.ofChange powerLevelsSpec)) powerLevelsCard

/-- THE SECOND FORM's CARD OF 'agoralaw10.PowerMay'. -/
def powerMayUptoCard : Claim7 := { stood := { row := powerMayUptoRow, standIns := [], harness := (true, "b5379ce6d862b4be32fa56c256c01a4fd1a873030338d27b529c8eb946faf40e"), looks := false }, kinds := [], alts := [], laidByText := true, laidKinds := [.data, .pinned], laidTests := true, laidLooks := .later }
def PowerMayUptoCardSaid : Prop := Claim7.holds Tryd.pinned (.plain (OpenSpec.upto powerMaySpec)) powerMayUptoCard

/-- THE SECOND FORM's CARD OF 'agoralaw10.PowerStays'. -/
def powerStaysUptoCard : Claim7 := { stood := { row := powerStaysUptoRow, standIns := [], harness := (true, "b5379ce6d862b4be32fa56c256c01a4fd1a873030338d27b529c8eb946faf40e"), looks := false }, kinds := [], alts := [], laidByText := true, laidKinds := [.data, .pinned], laidTests := true, laidLooks := .later }
def PowerStaysUptoCardSaid : Prop := Claim7.holds Tryd.pinned (.plain (OpenSpec.upto powerStaysSpec)) powerStaysUptoCard

/-- THE SECOND FORM's CARD OF 'agoralaw10.PowerLifts'. -/
def powerLiftsUptoCard : Claim7 := { stood := { row := powerLiftsUptoRow, standIns := [], harness := (true, "b5379ce6d862b4be32fa56c256c01a4fd1a873030338d27b529c8eb946faf40e"), looks := false }, kinds := [], alts := [], laidByText := true, laidKinds := [.data, .pinned], laidTests := true, laidLooks := .later }
def PowerLiftsUptoCardSaid : Prop := Claim7.holds Tryd.pinned (.plain (OpenSpec.upto powerLiftsSpec)) powerLiftsUptoCard

/-- THE SECOND FORM's CARD OF 'agoralaw10.PowerTells'. -/
def powerTellsUptoCard : Claim7 := { stood := { row := powerTellsUptoRow, standIns := [], harness := (true, "b5379ce6d862b4be32fa56c256c01a4fd1a873030338d27b529c8eb946faf40e"), looks := false }, kinds := [], alts := [], laidByText := true, laidKinds := [.data, .pinned], laidTests := true, laidLooks := .later }
def PowerTellsUptoCardSaid : Prop := Claim7.holds Tryd.pinned (.plain (OpenSpec.upto powerTellsSpec)) powerTellsUptoCard

/-- THE SECOND FORM's CARD OF 'agoralaw10.PowerLevels'. -/
def powerLevelsUptoCard : Claim7 := { stood := { row := powerLevelsUptoRow, standIns := [], harness := (true, "b5379ce6d862b4be32fa56c256c01a4fd1a873030338d27b529c8eb946faf40e"), looks := false }, kinds := [], alts := [], laidByText := true, laidKinds := [.data, .pinned], laidTests := true, laidLooks := .later }
def PowerLevelsUptoCardSaid : Prop := Claim7.holds Tryd.pinned (.plain (OpenSpec.upto powerLevelsSpec)) powerLevelsUptoCard
end Rows
end Go.Proofs.YtniaafncmnilgaaDoor
