/-
  NARROWER THAN 'FOR EVERY INPUT', by the rows' own cells (each row's printed sentence says how): RanksPowers: loops, laid · RanksLevels: loops, laid · RanksByPower: loops, laid · RanksLines: loops, laid · RanksChains: loops, laid · RanksBehind: loops, laid · RanksByLine: loops, laid · RanksSets: loops, laid.
  DERIVED. THE GIVEN ROWS OF THIS SEAT. 8 by the template 'for every input the law returns true; each argument reads behind the call as it read before'; 0 by the template 'total and deterministic' (their statements: YtcpfgjfiacfmoaaGreatDoorTotals.lean).
  GIVEN WITH THE SEED: the statements are not yours to turn. If you find one false, say at which input.
  Laid BY PROGRAM, IN A SANDBOX (cutbox-rows.mjs): the forced cells as the released guide's own fill.sh prints them over the translation 0ee8bca4c64b9baf… (all of the seat's roots in one cut). By AI agents, Wed Nov 11 2026. No macro, syntax, notation, axiom, sorry.
-/
import Derived.Test.YtcpfgjfiacfmoaaGreatDoorChecked
import GoSem.PinnedTables
import GoSem.Claim
import GoSem.ClaimJoined
import GoSem.ClaimMapViews
import Derived.JoinedTies
import Derived.KernelRfl
namespace Go.Proofs.YtcpfgjfiacfmoaaGreatDoor
/- THE CELL 'sum', in the pinned program and in every row, IS THE sha256 OF THE DUMP (.gsa) THAT YtcpfgjfiacfmoaaGreatDoorProg.lean LOADS. Nothing in Lean hashes anything: it is a label: what it is worth is what the hold of that sum in a sandbox is worth. -/
noncomputable def Tryz.pinned : Pinned := { name := "ytcpfgjfiacfmoaagreatdoor", sum := "0ee8bca4c64b9baf950965f150661ea36b0a04aa378185bc3cd7562ac4682ff8", checked := Tryz.checked }
namespace Rows
def none {H : Type} : Left H := { results := [], args := [] }

/- WHAT THE LISTED PACKAGE-LEVEL VARIABLES READ AS WHEN THE CALL BEGINS. Each datum BY PROGRAM (the guide's laid-datum.mjs) off the statement by which the dump's own 'gosem.cut.vars' lays the variable. In a bare row this is a premise. The card (YtcpfgjfiacfmoaaGreatDoorCards.lean) ties it to the program's text. -/
def laid_unicode_utf8_acceptRanges {H : Type} : DataW H := .agg [.agg [.lit (.int .u8 128), .lit (.int .u8 191)], .agg [.lit (.int .u8 160), .lit (.int .u8 191)], .agg [.lit (.int .u8 128), .lit (.int .u8 159)], .agg [.lit (.int .u8 144), .lit (.int .u8 191)], .agg [.lit (.int .u8 128), .lit (.int .u8 143)], .agg [.lit (.int .u8 0), .lit (.int .u8 0)], .agg [.lit (.int .u8 0), .lit (.int .u8 0)], .agg [.lit (.int .u8 0), .lit (.int .u8 0)], .agg [.lit (.int .u8 0), .lit (.int .u8 0)], .agg [.lit (.int .u8 0), .lit (.int .u8 0)], .agg [.lit (.int .u8 0), .lit (.int .u8 0)], .agg [.lit (.int .u8 0), .lit (.int .u8 0)], .agg [.lit (.int .u8 0), .lit (.int .u8 0)], .agg [.lit (.int .u8 0), .lit (.int .u8 0)], .agg [.lit (.int .u8 0), .lit (.int .u8 0)], .agg [.lit (.int .u8 0), .lit (.int .u8 0)]]
/-- One of Go's own tables, pinned by name: the form's constant. -/
def laid_unicode_utf8_first : DataW Unit := Go.Pinned.utf8First

/-- 'agoralaw12.RanksPowers': WHATEVER THE INPUT: true; the input reads as it did. -/
def ranksPowersSpec : ChangeSpec := { name := "ranksPowers", fn := fun _ => fun
  | [d] => { results := [.lit (.bool true)], args := [d] }
  | _ => none }
def ranksPowersRow : OpenClaim := { program := "ytcpfgjfiacfmoaagreatdoor", sum := "0ee8bca4c64b9baf950965f150661ea36b0a04aa378185bc3cd7562ac4682ff8", func := "agora/agoralaw12.RanksPowers", spec := "ranksPowers", inPlace := ["internal/bytealg.IndexByteString", "internal/bytealg.IndexString", "slices.overlaps[int]"], unfollowed := true, recurses := true, named := ["unicode/utf8.first", "unicode/utf8.acceptRanges", "internal/bytealg.MaxLen"], loops := true, apart := false, laid := [("unicode/utf8.acceptRanges", laid_unicode_utf8_acceptRanges), ("unicode/utf8.first", laid_unicode_utf8_first)] }
def RanksPowersSaid : Prop := ranksPowersRow.holds Tryz.pinned (OpenSpec.ofChange ranksPowersSpec)

/-- ITS FALSE NEIGHBOUR: 'it returns false'. Refute it at one input. -/
def ranksPowersWrong : ChangeSpec := { name := "ranksPowers", fn := fun _ => fun
  | [d] => { results := [.lit (.bool false)], args := [d] }
  | _ => none }
def RanksPowersWrongFalsely : Prop := ranksPowersRow.holds Tryz.pinned (OpenSpec.ofChange ranksPowersWrong)

/-- 'agoralaw12.RanksLevels': WHATEVER THE INPUT: true; the input reads as it did. -/
def ranksLevelsSpec : ChangeSpec := { name := "ranksLevels", fn := fun _ => fun
  | [d] => { results := [.lit (.bool true)], args := [d] }
  | _ => none }
def ranksLevelsRow : OpenClaim := { program := "ytcpfgjfiacfmoaagreatdoor", sum := "0ee8bca4c64b9baf950965f150661ea36b0a04aa378185bc3cd7562ac4682ff8", func := "agora/agoralaw12.RanksLevels", spec := "ranksLevels", inPlace := ["internal/bytealg.IndexByteString", "internal/bytealg.IndexString", "slices.overlaps[int]"], unfollowed := true, recurses := true, named := ["unicode/utf8.first", "unicode/utf8.acceptRanges", "internal/bytealg.MaxLen"], loops := true, apart := false, laid := [("unicode/utf8.acceptRanges", laid_unicode_utf8_acceptRanges), ("unicode/utf8.first", laid_unicode_utf8_first)] }
def RanksLevelsSaid : Prop := ranksLevelsRow.holds Tryz.pinned (OpenSpec.ofChange ranksLevelsSpec)

/-- ITS FALSE NEIGHBOUR: 'it returns false'. Refute it at one input. -/
def ranksLevelsWrong : ChangeSpec := { name := "ranksLevels", fn := fun _ => fun
  | [d] => { results := [.lit (.bool false)], args := [d] }
  | _ => none }
def RanksLevelsWrongFalsely : Prop := ranksLevelsRow.holds Tryz.pinned (OpenSpec.ofChange ranksLevelsWrong)

/-- 'agoralaw12.RanksByPower': WHATEVER THE INPUT: true; the input reads as it did. -/
def ranksByPowerSpec : ChangeSpec := { name := "ranksByPower", fn := fun _ => fun
  | [d1, d2] => { results := [.lit (.bool true)], args := [d1, d2] }
  | _ => none }
def ranksByPowerRow : OpenClaim := { program := "ytcpfgjfiacfmoaagreatdoor", sum := "0ee8bca4c64b9baf950965f150661ea36b0a04aa378185bc3cd7562ac4682ff8", func := "agora/agoralaw12.RanksByPower", spec := "ranksByPower", inPlace := ["internal/bytealg.IndexByteString", "internal/bytealg.IndexString", "slices.overlaps[int]"], unfollowed := true, recurses := true, named := ["unicode/utf8.first", "unicode/utf8.acceptRanges", "internal/bytealg.MaxLen"], loops := true, apart := false, laid := [("unicode/utf8.acceptRanges", laid_unicode_utf8_acceptRanges), ("unicode/utf8.first", laid_unicode_utf8_first)] }
def RanksByPowerSaid : Prop := ranksByPowerRow.holds Tryz.pinned (OpenSpec.ofChange ranksByPowerSpec)

/-- ITS FALSE NEIGHBOUR: 'it returns false'. Refute it at one input. -/
def ranksByPowerWrong : ChangeSpec := { name := "ranksByPower", fn := fun _ => fun
  | [d1, d2] => { results := [.lit (.bool false)], args := [d1, d2] }
  | _ => none }
def RanksByPowerWrongFalsely : Prop := ranksByPowerRow.holds Tryz.pinned (OpenSpec.ofChange ranksByPowerWrong)

/-- 'agoralaw12.RanksLines': WHATEVER THE INPUT: true; the input reads as it did. -/
def ranksLinesSpec : ChangeSpec := { name := "ranksLines", fn := fun _ => fun
  | [d1, d2] => { results := [.lit (.bool true)], args := [d1, d2] }
  | _ => none }
def ranksLinesRow : OpenClaim := { program := "ytcpfgjfiacfmoaagreatdoor", sum := "0ee8bca4c64b9baf950965f150661ea36b0a04aa378185bc3cd7562ac4682ff8", func := "agora/agoralaw12.RanksLines", spec := "ranksLines", inPlace := ["internal/bytealg.IndexByteString", "internal/bytealg.IndexString", "slices.overlaps[int]"], unfollowed := true, recurses := true, named := ["unicode/utf8.first", "unicode/utf8.acceptRanges", "internal/bytealg.MaxLen"], loops := true, apart := false, laid := [("unicode/utf8.acceptRanges", laid_unicode_utf8_acceptRanges), ("unicode/utf8.first", laid_unicode_utf8_first)] }
def RanksLinesSaid : Prop := ranksLinesRow.holds Tryz.pinned (OpenSpec.ofChange ranksLinesSpec)

/-- ITS FALSE NEIGHBOUR: 'it returns false'. Refute it at one input. -/
def ranksLinesWrong : ChangeSpec := { name := "ranksLines", fn := fun _ => fun
  | [d1, d2] => { results := [.lit (.bool false)], args := [d1, d2] }
  | _ => none }
def RanksLinesWrongFalsely : Prop := ranksLinesRow.holds Tryz.pinned (OpenSpec.ofChange ranksLinesWrong)

/-- 'agoralaw12.RanksChains': WHATEVER THE INPUT: true; the input reads as it did. -/
def ranksChainsSpec : ChangeSpec := { name := "ranksChains", fn := fun _ => fun
  | [d1, d2] => { results := [.lit (.bool true)], args := [d1, d2] }
  | _ => none }
def ranksChainsRow : OpenClaim := { program := "ytcpfgjfiacfmoaagreatdoor", sum := "0ee8bca4c64b9baf950965f150661ea36b0a04aa378185bc3cd7562ac4682ff8", func := "agora/agoralaw12.RanksChains", spec := "ranksChains", inPlace := ["internal/bytealg.IndexByteString", "internal/bytealg.IndexString", "slices.overlaps[int]"], unfollowed := true, recurses := true, named := ["unicode/utf8.first", "unicode/utf8.acceptRanges", "internal/bytealg.MaxLen"], loops := true, apart := false, laid := [("unicode/utf8.acceptRanges", laid_unicode_utf8_acceptRanges), ("unicode/utf8.first", laid_unicode_utf8_first)] }
def RanksChainsSaid : Prop := ranksChainsRow.holds Tryz.pinned (OpenSpec.ofChange ranksChainsSpec)

/-- ITS FALSE NEIGHBOUR: 'it returns false'. Refute it at one input. -/
def ranksChainsWrong : ChangeSpec := { name := "ranksChains", fn := fun _ => fun
  | [d1, d2] => { results := [.lit (.bool false)], args := [d1, d2] }
  | _ => none }
def RanksChainsWrongFalsely : Prop := ranksChainsRow.holds Tryz.pinned (OpenSpec.ofChange ranksChainsWrong)

/-- 'agoralaw12.RanksBehind': WHATEVER THE INPUT: true; the input reads as it did. -/
def ranksBehindSpec : ChangeSpec := { name := "ranksBehind", fn := fun _ => fun
  | [d1, d2] => { results := [.lit (.bool true)], args := [d1, d2] }
  | _ => none }
def ranksBehindRow : OpenClaim := { program := "ytcpfgjfiacfmoaagreatdoor", sum := "0ee8bca4c64b9baf950965f150661ea36b0a04aa378185bc3cd7562ac4682ff8", func := "agora/agoralaw12.RanksBehind", spec := "ranksBehind", inPlace := ["internal/bytealg.IndexByteString", "internal/bytealg.IndexString", "slices.overlaps[int]"], unfollowed := true, recurses := true, named := ["unicode/utf8.first", "unicode/utf8.acceptRanges", "internal/bytealg.MaxLen"], loops := true, apart := false, laid := [("unicode/utf8.acceptRanges", laid_unicode_utf8_acceptRanges), ("unicode/utf8.first", laid_unicode_utf8_first)] }
def RanksBehindSaid : Prop := ranksBehindRow.holds Tryz.pinned (OpenSpec.ofChange ranksBehindSpec)

/-- ITS FALSE NEIGHBOUR: 'it returns false'. Refute it at one input. -/
def ranksBehindWrong : ChangeSpec := { name := "ranksBehind", fn := fun _ => fun
  | [d1, d2] => { results := [.lit (.bool false)], args := [d1, d2] }
  | _ => none }
def RanksBehindWrongFalsely : Prop := ranksBehindRow.holds Tryz.pinned (OpenSpec.ofChange ranksBehindWrong)

/-- 'agoralaw12.RanksByLine': WHATEVER THE INPUT: true; the input reads as it did. -/
def ranksByLineSpec : ChangeSpec := { name := "ranksByLine", fn := fun _ => fun
  | [d1, d2, d3] => { results := [.lit (.bool true)], args := [d1, d2, d3] }
  | _ => none }
def ranksByLineRow : OpenClaim := { program := "ytcpfgjfiacfmoaagreatdoor", sum := "0ee8bca4c64b9baf950965f150661ea36b0a04aa378185bc3cd7562ac4682ff8", func := "agora/agoralaw12.RanksByLine", spec := "ranksByLine", inPlace := ["internal/bytealg.IndexByteString", "internal/bytealg.IndexString", "slices.overlaps[int]"], unfollowed := true, recurses := true, named := ["unicode/utf8.first", "unicode/utf8.acceptRanges", "internal/bytealg.MaxLen"], loops := true, apart := false, laid := [("unicode/utf8.acceptRanges", laid_unicode_utf8_acceptRanges), ("unicode/utf8.first", laid_unicode_utf8_first)] }
def RanksByLineSaid : Prop := ranksByLineRow.holds Tryz.pinned (OpenSpec.ofChange ranksByLineSpec)

/-- ITS FALSE NEIGHBOUR: 'it returns false'. Refute it at one input. -/
def ranksByLineWrong : ChangeSpec := { name := "ranksByLine", fn := fun _ => fun
  | [d1, d2, d3] => { results := [.lit (.bool false)], args := [d1, d2, d3] }
  | _ => none }
def RanksByLineWrongFalsely : Prop := ranksByLineRow.holds Tryz.pinned (OpenSpec.ofChange ranksByLineWrong)

/-- 'agoralaw12.RanksSets': WHATEVER THE INPUT: true; the input reads as it did. -/
def ranksSetsSpec : ChangeSpec := { name := "ranksSets", fn := fun _ => fun
  | [d1, d2, d3] => { results := [.lit (.bool true)], args := [d1, d2, d3] }
  | _ => none }
def ranksSetsRow : OpenClaim := { program := "ytcpfgjfiacfmoaagreatdoor", sum := "0ee8bca4c64b9baf950965f150661ea36b0a04aa378185bc3cd7562ac4682ff8", func := "agora/agoralaw12.RanksSets", spec := "ranksSets", inPlace := ["internal/bytealg.IndexByteString", "internal/bytealg.IndexString", "slices.overlaps[int]"], unfollowed := true, recurses := true, named := ["unicode/utf8.first", "unicode/utf8.acceptRanges", "internal/bytealg.MaxLen"], loops := true, apart := false, laid := [("unicode/utf8.acceptRanges", laid_unicode_utf8_acceptRanges), ("unicode/utf8.first", laid_unicode_utf8_first)] }
def RanksSetsSaid : Prop := ranksSetsRow.holds Tryz.pinned (OpenSpec.ofChange ranksSetsSpec)

/-- ITS FALSE NEIGHBOUR: 'it returns false'. Refute it at one input. -/
def ranksSetsWrong : ChangeSpec := { name := "ranksSets", fn := fun _ => fun
  | [d1, d2, d3] => { results := [.lit (.bool false)], args := [d1, d2, d3] }
  | _ => none }
def RanksSetsWrongFalsely : Prop := ranksSetsRow.holds Tryz.pinned (OpenSpec.ofChange ranksSetsWrong)

/- THE SECOND FORM. 'bulk': how many values and letters a reading holds, each counted each time it is reached (what is shared counts as often as it is met; a slice's spare places count too). A statement '..UptoSaid' is the law's where the arguments, and the package variables that the reading takes, are together of bulk at most 1048576: NARROWER than '..Said'. Prove '..Said' where nothing that the law and all that it calls make is longer than what came in: it says more and counts as full. Else prove '..UptoSaid'. A law counts once. -/
mutual
def uptoBulk {H : Type} : DataW H → Nat
  | .lit (.string bytes) => bytes.length + 1
  | .lit _ => 1
  | .nil => 1
  | .ptr d => uptoBulk d + 1
  | .slice elems spare => uptoBulkAll elems + uptoBulkAll spare + 1
  | .agg parts => uptoBulkAll parts + 1
  | .iface _ d => uptoBulk d + 1
  | .map entries => uptoBulkEntries entries + 1
  | .held _ => 1
def uptoBulkAll {H : Type} : List (DataW H) → Nat
  | [] => 0
  | d :: r => uptoBulk d + uptoBulkAll r
def uptoBulkEntries {H : Type} : List (Lit × DataW H) → Nat
  | [] => 0
  | x :: r => uptoBulkEntry x + uptoBulkEntries r
def uptoBulkEntry {H : Type} : Lit × DataW H → Nat
  | (.string bytes, d) => bytes.length + uptoBulk d + 1
  | (_, d) => uptoBulk d + 1
 end
def uptoSmall : (H : Type) → List (DataW H) → Bool := fun _ ds => decide (uptoBulkAll ds ≤ 1048576)
def OpenSpec.upto (s : _root_.Go.ChangeSpec) : _root_.Go.OpenSpec := { _root_.Go.OpenSpec.ofChange s with cond := some uptoSmall }

/-- 'agoralaw12.RanksPowers', WHERE WHAT IT READS IS OF BULK AT MOST 1048576: true; the input reads as it did. -/
def ranksPowersUptoRow : OpenClaim := { program := "ytcpfgjfiacfmoaagreatdoor", sum := "0ee8bca4c64b9baf950965f150661ea36b0a04aa378185bc3cd7562ac4682ff8", func := "agora/agoralaw12.RanksPowers", spec := "ranksPowers", inPlace := ["internal/bytealg.IndexByteString", "internal/bytealg.IndexString", "slices.overlaps[int]"], unfollowed := true, recurses := true, named := ["unicode/utf8.first", "unicode/utf8.acceptRanges", "internal/bytealg.MaxLen"], loops := true, apart := false, laid := [("unicode/utf8.acceptRanges", laid_unicode_utf8_acceptRanges), ("unicode/utf8.first", laid_unicode_utf8_first)], narrowed := true }
def RanksPowersUptoSaid : Prop := ranksPowersUptoRow.holds Tryz.pinned (OpenSpec.upto ranksPowersSpec)

/-- 'agoralaw12.RanksLevels', WHERE WHAT IT READS IS OF BULK AT MOST 1048576: true; the input reads as it did. -/
def ranksLevelsUptoRow : OpenClaim := { program := "ytcpfgjfiacfmoaagreatdoor", sum := "0ee8bca4c64b9baf950965f150661ea36b0a04aa378185bc3cd7562ac4682ff8", func := "agora/agoralaw12.RanksLevels", spec := "ranksLevels", inPlace := ["internal/bytealg.IndexByteString", "internal/bytealg.IndexString", "slices.overlaps[int]"], unfollowed := true, recurses := true, named := ["unicode/utf8.first", "unicode/utf8.acceptRanges", "internal/bytealg.MaxLen"], loops := true, apart := false, laid := [("unicode/utf8.acceptRanges", laid_unicode_utf8_acceptRanges), ("unicode/utf8.first", laid_unicode_utf8_first)], narrowed := true }
def RanksLevelsUptoSaid : Prop := ranksLevelsUptoRow.holds Tryz.pinned (OpenSpec.upto ranksLevelsSpec)

/-- 'agoralaw12.RanksByPower', WHERE WHAT IT READS IS OF BULK AT MOST 1048576: true; the input reads as it did. -/
def ranksByPowerUptoRow : OpenClaim := { program := "ytcpfgjfiacfmoaagreatdoor", sum := "0ee8bca4c64b9baf950965f150661ea36b0a04aa378185bc3cd7562ac4682ff8", func := "agora/agoralaw12.RanksByPower", spec := "ranksByPower", inPlace := ["internal/bytealg.IndexByteString", "internal/bytealg.IndexString", "slices.overlaps[int]"], unfollowed := true, recurses := true, named := ["unicode/utf8.first", "unicode/utf8.acceptRanges", "internal/bytealg.MaxLen"], loops := true, apart := false, laid := [("unicode/utf8.acceptRanges", laid_unicode_utf8_acceptRanges), ("unicode/utf8.first", laid_unicode_utf8_first)], narrowed := true }
def RanksByPowerUptoSaid : Prop := ranksByPowerUptoRow.holds Tryz.pinned (OpenSpec.upto ranksByPowerSpec)

/-- 'agoralaw12.RanksLines', WHERE WHAT IT READS IS OF BULK AT MOST 1048576: true; the input reads as it did. -/
def ranksLinesUptoRow : OpenClaim := { program := "ytcpfgjfiacfmoaagreatdoor", sum := "0ee8bca4c64b9baf950965f150661ea36b0a04aa378185bc3cd7562ac4682ff8", func := "agora/agoralaw12.RanksLines", spec := "ranksLines", inPlace := ["internal/bytealg.IndexByteString", "internal/bytealg.IndexString", "slices.overlaps[int]"], unfollowed := true, recurses := true, named := ["unicode/utf8.first", "unicode/utf8.acceptRanges", "internal/bytealg.MaxLen"], loops := true, apart := false, laid := [("unicode/utf8.acceptRanges", laid_unicode_utf8_acceptRanges), ("unicode/utf8.first", laid_unicode_utf8_first)], narrowed := true }
def RanksLinesUptoSaid : Prop := ranksLinesUptoRow.holds Tryz.pinned (OpenSpec.upto ranksLinesSpec)

/-- 'agoralaw12.RanksChains', WHERE WHAT IT READS IS OF BULK AT MOST 1048576: true; the input reads as it did. -/
def ranksChainsUptoRow : OpenClaim := { program := "ytcpfgjfiacfmoaagreatdoor", sum := "0ee8bca4c64b9baf950965f150661ea36b0a04aa378185bc3cd7562ac4682ff8", func := "agora/agoralaw12.RanksChains", spec := "ranksChains", inPlace := ["internal/bytealg.IndexByteString", "internal/bytealg.IndexString", "slices.overlaps[int]"], unfollowed := true, recurses := true, named := ["unicode/utf8.first", "unicode/utf8.acceptRanges", "internal/bytealg.MaxLen"], loops := true, apart := false, laid := [("unicode/utf8.acceptRanges", laid_unicode_utf8_acceptRanges), ("unicode/utf8.first", laid_unicode_utf8_first)], narrowed := true }
def RanksChainsUptoSaid : Prop := ranksChainsUptoRow.holds Tryz.pinned (OpenSpec.upto ranksChainsSpec)

/-- 'agoralaw12.RanksBehind', WHERE WHAT IT READS IS OF BULK AT MOST 1048576: true; the input reads as it did. -/
def ranksBehindUptoRow : OpenClaim := { program := "ytcpfgjfiacfmoaagreatdoor", sum := "0ee8bca4c64b9baf950965f150661ea36b0a04aa378185bc3cd7562ac4682ff8", func := "agora/agoralaw12.RanksBehind", spec := "ranksBehind", inPlace := ["internal/bytealg.IndexByteString", "internal/bytealg.IndexString", "slices.overlaps[int]"], unfollowed := true, recurses := true, named := ["unicode/utf8.first", "unicode/utf8.acceptRanges", "internal/bytealg.MaxLen"], loops := true, apart := false, laid := [("unicode/utf8.acceptRanges", laid_unicode_utf8_acceptRanges), ("unicode/utf8.first", laid_unicode_utf8_first)], narrowed := true }
def RanksBehindUptoSaid : Prop := ranksBehindUptoRow.holds Tryz.pinned (OpenSpec.upto ranksBehindSpec)

/-- 'agoralaw12.RanksByLine', WHERE WHAT IT READS IS OF BULK AT MOST 1048576: true; the input reads as it did. -/
def ranksByLineUptoRow : OpenClaim := { program := "ytcpfgjfiacfmoaagreatdoor", sum := "0ee8bca4c64b9baf950965f150661ea36b0a04aa378185bc3cd7562ac4682ff8", func := "agora/agoralaw12.RanksByLine", spec := "ranksByLine", inPlace := ["internal/bytealg.IndexByteString", "internal/bytealg.IndexString", "slices.overlaps[int]"], unfollowed := true, recurses := true, named := ["unicode/utf8.first", "unicode/utf8.acceptRanges", "internal/bytealg.MaxLen"], loops := true, apart := false, laid := [("unicode/utf8.acceptRanges", laid_unicode_utf8_acceptRanges), ("unicode/utf8.first", laid_unicode_utf8_first)], narrowed := true }
def RanksByLineUptoSaid : Prop := ranksByLineUptoRow.holds Tryz.pinned (OpenSpec.upto ranksByLineSpec)

/-- 'agoralaw12.RanksSets', WHERE WHAT IT READS IS OF BULK AT MOST 1048576: true; the input reads as it did. -/
def ranksSetsUptoRow : OpenClaim := { program := "ytcpfgjfiacfmoaagreatdoor", sum := "0ee8bca4c64b9baf950965f150661ea36b0a04aa378185bc3cd7562ac4682ff8", func := "agora/agoralaw12.RanksSets", spec := "ranksSets", inPlace := ["internal/bytealg.IndexByteString", "internal/bytealg.IndexString", "slices.overlaps[int]"], unfollowed := true, recurses := true, named := ["unicode/utf8.first", "unicode/utf8.acceptRanges", "internal/bytealg.MaxLen"], loops := true, apart := false, laid := [("unicode/utf8.acceptRanges", laid_unicode_utf8_acceptRanges), ("unicode/utf8.first", laid_unicode_utf8_first)], narrowed := true }
def RanksSetsUptoSaid : Prop := ranksSetsUptoRow.holds Tryz.pinned (OpenSpec.upto ranksSetsSpec)

end Rows
end Go.Proofs.YtcpfgjfiacfmoaaGreatDoor
