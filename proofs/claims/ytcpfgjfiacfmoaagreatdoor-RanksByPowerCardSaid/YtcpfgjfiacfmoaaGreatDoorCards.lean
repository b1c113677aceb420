/-
  DERIVED. GIVEN WITH THE SEED: THE CARDS: each row of YtcpfgjfiacfmoaaGreatDoorRows.lean that lists a variable, with what it lists TIED to the program's text (the seventh form; the later family's looks); each row that meets fmt, with fmt's text TOLD by the authors' own Lean function (tested against real Go, not proved from fmt's source: count such statements apart). THE CARD IS WHAT COUNTS. Prove the row's statement (the work); the ties are given (YtcpfgjfiacfmoaaGreatDoorTie.lean); close each card by the builder's one call (the guide's Derived/Test/ToyasCard.lean, 'card_holds'). Laid BY PROGRAM, IN A SANDBOX (cutbox-door.mjs). By AI agents, Wed Nov 11 2026. No macro, syntax, notation, axiom, sorry.
-/
import Derived.Test.YtcpfgjfiacfmoaaGreatDoorRows
import GoSem.ClaimSeven
namespace Go.Proofs.YtcpfgjfiacfmoaaGreatDoor
namespace Rows

/-- THE TIED CARD OF 'agoralaw12.RanksPowers'. -/
def ranksPowersCard : Claim7 := { stood := { row := ranksPowersRow, standIns := [], harness := (true, "c3165010188b75f2f7a46b802563b490a1563292a2f03e788ea598b3317c119a"), looks := false }, kinds := [], alts := [], laidByText := true, laidKinds := [.data, .pinned], laidTests := true, laidLooks := .later }
def RanksPowersCardSaid : Prop := Claim7.holds Tryz.pinned (.plain (OpenSpec.ofChange ranksPowersSpec)) ranksPowersCard

/-- THE TIED CARD OF 'agoralaw12.RanksLevels'. -/
def ranksLevelsCard : Claim7 := { stood := { row := ranksLevelsRow, standIns := [], harness := (true, "c3165010188b75f2f7a46b802563b490a1563292a2f03e788ea598b3317c119a"), looks := false }, kinds := [], alts := [], laidByText := true, laidKinds := [.data, .pinned], laidTests := true, laidLooks := .later }
def RanksLevelsCardSaid : Prop := Claim7.holds Tryz.pinned (.plain (OpenSpec.ofChange ranksLevelsSpec)) ranksLevelsCard

/-- THE TIED CARD OF 'agoralaw12.RanksByPower'. -/
def ranksByPowerCard : Claim7 := { stood := { row := ranksByPowerRow, standIns := [], harness := (true, "c3165010188b75f2f7a46b802563b490a1563292a2f03e788ea598b3317c119a"), looks := false }, kinds := [], alts := [], laidByText := true, laidKinds := [.data, .pinned], laidTests := true, laidLooks := .later }
def RanksByPowerCardSaid : Prop := Claim7.holds Tryz.pinned (.plain (OpenSpec.ofChange ranksByPowerSpec)) ranksByPowerCard

/-- THE TIED CARD OF 'agoralaw12.RanksLines'. -/
def ranksLinesCard : Claim7 := { stood := { row := ranksLinesRow, standIns := [], harness := (true, "c3165010188b75f2f7a46b802563b490a1563292a2f03e788ea598b3317c119a"), looks := false }, kinds := [], alts := [], laidByText := true, laidKinds := [.data, .pinned], laidTests := true, laidLooks := .later }
def RanksLinesCardSaid : Prop := Claim7.holds Tryz.pinned (.plain (OpenSpec.ofChange ranksLinesSpec)) ranksLinesCard

/-- THE TIED CARD OF 'agoralaw12.RanksChains'. -/
def ranksChainsCard : Claim7 := { stood := { row := ranksChainsRow, standIns := [], harness := (true, "c3165010188b75f2f7a46b802563b490a1563292a2f03e788ea598b3317c119a"), looks := false }, kinds := [], alts := [], laidByText := true, laidKinds := [.data, .pinned], laidTests := true, laidLooks := .later }
def RanksChainsCardSaid : Prop := Claim7.holds Tryz.pinned (.plain (OpenSpec.ofChange ranksChainsSpec)) ranksChainsCard

/-- THE TIED CARD OF 'agoralaw12.RanksBehind'. -/
def ranksBehindCard : Claim7 := { stood := { row := ranksBehindRow, standIns := [], harness := (true, "c3165010188b75f2f7a46b802563b490a1563292a2f03e788ea598b3317c119a"), looks := false }, kinds := [], alts := [], laidByText := true, laidKinds := [.data, .pinned], laidTests := true, laidLooks := .later }
def RanksBehindCardSaid : Prop := Claim7.holds Tryz.pinned (.plain (OpenSpec.ofChange ranksBehindSpec)) ranksBehindCard

/-- THE TIED CARD OF 'agoralaw12.RanksByLine'. -/
def ranksByLineCard : Claim7 := { stood := { row := ranksByLineRow, standIns := [], harness := (true, "c3165010188b75f2f7a46b802563b490a1563292a2f03e788ea598b3317c119a"), looks := false }, kinds := [], alts := [], laidByText := true, laidKinds := [.data, .pinned], laidTests := true, laidLooks := .later }
def RanksByLineCardSaid : Prop := Claim7.holds Tryz.pinned (.plain (OpenSpec.ofChange ranksByLineSpec)) ranksByLineCard

/-- THE TIED CARD OF 'agoralaw12.RanksSets'. -/
def ranksSetsCard : Claim7 := { stood := { row := ranksSetsRow, standIns := [], harness := (true, "c3165010188b75f2f7a46b802563b490a1563292a2f03e788ea598b3317c119a"), looks := false }, kinds := [], alts := [], laidByText := true, laidKinds := [.data, .pinned], laidTests := true, laidLooks := .later }
def RanksSetsCardSaid : Prop := Claim7.holds Tryz.pinned (.plain (OpenSpec.ofChange ranksSetsSpec)) ranksSetsCard

/-- THE SECOND FORM's CARD OF 'agoralaw12.RanksPowers'. -/
def ranksPowersUptoCard : Claim7 := { stood := { row := ranksPowersUptoRow, standIns := [], harness := (true, "c3165010188b75f2f7a46b802563b490a1563292a2f03e788ea598b3317c119a"), looks := false }, kinds := [], alts := [], laidByText := true, laidKinds := [.data, .pinned], laidTests := true, laidLooks := .later }
def RanksPowersUptoCardSaid : Prop := Claim7.holds Tryz.pinned (.plain (OpenSpec.upto ranksPowersSpec)) ranksPowersUptoCard

/-- THE SECOND FORM's CARD OF 'agoralaw12.RanksLevels'. -/
def ranksLevelsUptoCard : Claim7 := { stood := { row := ranksLevelsUptoRow, standIns := [], harness := (true, "c3165010188b75f2f7a46b802563b490a1563292a2f03e788ea598b3317c119a"), looks := false }, kinds := [], alts := [], laidByText := true, laidKinds := [.data, .pinned], laidTests := true, laidLooks := .later }
def RanksLevelsUptoCardSaid : Prop := Claim7.holds Tryz.pinned (.plain (OpenSpec.upto ranksLevelsSpec)) ranksLevelsUptoCard

/-- THE SECOND FORM's CARD OF 'agoralaw12.RanksByPower'. -/
def ranksByPowerUptoCard : Claim7 := { stood := { row := ranksByPowerUptoRow, standIns := [], harness := (true, "c3165010188b75f2f7a46b802563b490a1563292a2f03e788ea598b3317c119a"), looks := false }, kinds := [], alts := [], laidByText := true, laidKinds := [.data, .pinned], laidTests := true, laidLooks := .later }
def RanksByPowerUptoCardSaid : Prop := Claim7.holds Tryz.pinned (.plain (OpenSpec.upto ranksByPowerSpec)) ranksByPowerUptoCard

/-- THE SECOND FORM's CARD OF 'agoralaw12.RanksLines'. -/
def ranksLinesUptoCard : Claim7 := { stood := { row := ranksLinesUptoRow, standIns := [], harness := (true, "c3165010188b75f2f7a46b802563b490a1563292a2f03e788ea598b3317c119a"), looks := false }, kinds := [], alts := [], laidByText := true, laidKinds := [.data, .pinned], laidTests := true, laidLooks := .later }
def RanksLinesUptoCardSaid : Prop := Claim7.holds Tryz.pinned (.plain (OpenSpec.upto ranksLinesSpec)) ranksLinesUptoCard

/-- THE SECOND FORM's CARD OF 'agoralaw12.RanksChains'. -/
def ranksChainsUptoCard : Claim7 := { stood := { row := ranksChainsUptoRow, standIns := [], harness := (true, "c3165010188b75f2f7a46b802563b490a1563292a2f03e788ea598b3317c119a"), looks := false }, kinds := [], alts := [], laidByText := true, laidKinds := [.data, .pinned], laidTests := true, laidLooks := .later }
def RanksChainsUptoCardSaid : Prop := Claim7.holds Tryz.pinned (.plain (OpenSpec.upto ranksChainsSpec)) ranksChainsUptoCard

/-- THE SECOND FORM's CARD OF 'agoralaw12.RanksBehind'. -/
def ranksBehindUptoCard : Claim7 := { stood := { row := ranksBehindUptoRow, standIns := [], harness := (true, "c3165010188b75f2f7a46b802563b490a1563292a2f03e788ea598b3317c119a"), looks := false }, kinds := [], alts := [], laidByText := true, laidKinds := [.data, .pinned], laidTests := true, laidLooks := .later }
def RanksBehindUptoCardSaid : Prop := Claim7.holds Tryz.pinned (.plain (OpenSpec.upto ranksBehindSpec)) ranksBehindUptoCard

/-- THE SECOND FORM's CARD OF 'agoralaw12.RanksByLine'. -/
def ranksByLineUptoCard : Claim7 := { stood := { row := ranksByLineUptoRow, standIns := [], harness := (true, "c3165010188b75f2f7a46b802563b490a1563292a2f03e788ea598b3317c119a"), looks := false }, kinds := [], alts := [], laidByText := true, laidKinds := [.data, .pinned], laidTests := true, laidLooks := .later }
def RanksByLineUptoCardSaid : Prop := Claim7.holds Tryz.pinned (.plain (OpenSpec.upto ranksByLineSpec)) ranksByLineUptoCard

/-- THE SECOND FORM's CARD OF 'agoralaw12.RanksSets'. -/
def ranksSetsUptoCard : Claim7 := { stood := { row := ranksSetsUptoRow, standIns := [], harness := (true, "c3165010188b75f2f7a46b802563b490a1563292a2f03e788ea598b3317c119a"), looks := false }, kinds := [], alts := [], laidByText := true, laidKinds := [.data, .pinned], laidTests := true, laidLooks := .later }
def RanksSetsUptoCardSaid : Prop := Claim7.holds Tryz.pinned (.plain (OpenSpec.upto ranksSetsSpec)) ranksSetsUptoCard
end Rows
end Go.Proofs.YtcpfgjfiacfmoaaGreatDoor
