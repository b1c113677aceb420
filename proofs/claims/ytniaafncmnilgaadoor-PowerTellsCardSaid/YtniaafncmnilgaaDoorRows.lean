/-
  NARROWER THAN 'FOR EVERY INPUT', by the rows' own cells (each row's printed sentence says how): PowerMay: laid · PowerStays: laid · PowerLifts: laid · PowerTells: loops, laid · PowerLevels: laid.
  DERIVED. THE GIVEN ROWS OF THIS SEAT. 5 by the template 'for every input the law returns true; each argument reads behind the call as it read before'; 0 by the template 'total and deterministic' (their statements: YtniaafncmnilgaaDoorTotals.lean).
  GIVEN WITH THE SEED: the statements are not yours to turn. If you find one false, say at which input.
  Laid BY PROGRAM, IN A SANDBOX (cutbox-rows.mjs): the forced cells as the released guide's own fill.sh prints them over the translation 44fe9494a6b9fe4b… (all of the seat's roots in one cut). By AI agents, Wed Nov 11 2026. No macro, syntax, notation, axiom, sorry.
-/
import Derived.Test.YtniaafncmnilgaaDoorChecked
import GoSem.PinnedTables
import GoSem.Claim
import GoSem.ClaimJoined
import GoSem.ClaimMapViews
import Derived.JoinedTies
import Derived.KernelRfl
namespace Go.Proofs.YtniaafncmnilgaaDoor
/- THE CELL 'sum', in the pinned program and in every row, IS THE sha256 OF THE DUMP (.gsa) THAT YtniaafncmnilgaaDoorProg.lean LOADS. Nothing in Lean hashes anything: it is a label: what it is worth is what the hold of that sum in a sandbox is worth. -/
noncomputable def Tryd.pinned : Pinned := { name := "ytniaafncmnilgaadoor", sum := "44fe9494a6b9fe4ba649f54bc1aee53857c00c1ec80f36f710f5169712ef6e2a", checked := Tryd.checked }
namespace Rows
def none {H : Type} : Left H := { results := [], args := [] }

/- WHAT THE LISTED PACKAGE-LEVEL VARIABLES READ AS WHEN THE CALL BEGINS. Each datum BY PROGRAM (the guide's laid-datum.mjs) off the statement by which the dump's own 'gosem.cut.vars' lays the variable. In a bare row this is a premise. The card (YtniaafncmnilgaaDoorCards.lean) ties it to the program's text. -/
def laid_unicode_utf8_acceptRanges {H : Type} : DataW H := .agg [.agg [.lit (.int .u8 128), .lit (.int .u8 191)], .agg [.lit (.int .u8 160), .lit (.int .u8 191)], .agg [.lit (.int .u8 128), .lit (.int .u8 159)], .agg [.lit (.int .u8 144), .lit (.int .u8 191)], .agg [.lit (.int .u8 128), .lit (.int .u8 143)], .agg [.lit (.int .u8 0), .lit (.int .u8 0)], .agg [.lit (.int .u8 0), .lit (.int .u8 0)], .agg [.lit (.int .u8 0), .lit (.int .u8 0)], .agg [.lit (.int .u8 0), .lit (.int .u8 0)], .agg [.lit (.int .u8 0), .lit (.int .u8 0)], .agg [.lit (.int .u8 0), .lit (.int .u8 0)], .agg [.lit (.int .u8 0), .lit (.int .u8 0)], .agg [.lit (.int .u8 0), .lit (.int .u8 0)], .agg [.lit (.int .u8 0), .lit (.int .u8 0)], .agg [.lit (.int .u8 0), .lit (.int .u8 0)], .agg [.lit (.int .u8 0), .lit (.int .u8 0)]]
/-- One of Go's own tables, pinned by name: the form's constant. -/
def laid_unicode_utf8_first : DataW Unit := Go.Pinned.utf8First

/-- 'agoralaw10.PowerMay': WHATEVER THE INPUT: true; the input reads as it did. -/
def powerMaySpec : ChangeSpec := { name := "powerMay", fn := fun _ => fun
  | [d1, d2, d3] => { results := [.lit (.bool true)], args := [d1, d2, d3] }
  | _ => none }
def powerMayRow : OpenClaim := { program := "ytniaafncmnilgaadoor", sum := "44fe9494a6b9fe4ba649f54bc1aee53857c00c1ec80f36f710f5169712ef6e2a", func := "agora/agoralaw10.PowerMay", spec := "powerMay", inPlace := ["internal/bytealg.IndexByteString", "internal/bytealg.IndexString"], unfollowed := true, recurses := true, named := ["unicode/utf8.first", "unicode/utf8.acceptRanges", "internal/bytealg.MaxLen"], apart := false, laid := [("unicode/utf8.acceptRanges", laid_unicode_utf8_acceptRanges), ("unicode/utf8.first", laid_unicode_utf8_first)] }
def PowerMaySaid : Prop := powerMayRow.holds Tryd.pinned (OpenSpec.ofChange powerMaySpec)

/-- ITS FALSE NEIGHBOUR: 'it returns false'. Refute it at one input. -/
def powerMayWrong : ChangeSpec := { name := "powerMay", fn := fun _ => fun
  | [d1, d2, d3] => { results := [.lit (.bool false)], args := [d1, d2, d3] }
  | _ => none }
def PowerMayWrongFalsely : Prop := powerMayRow.holds Tryd.pinned (OpenSpec.ofChange powerMayWrong)

/-- 'agoralaw10.PowerStays': WHATEVER THE INPUT: true; the input reads as it did. -/
def powerStaysSpec : ChangeSpec := { name := "powerStays", fn := fun _ => fun
  | [d1, d2] => { results := [.lit (.bool true)], args := [d1, d2] }
  | _ => none }
def powerStaysRow : OpenClaim := { program := "ytniaafncmnilgaadoor", sum := "44fe9494a6b9fe4ba649f54bc1aee53857c00c1ec80f36f710f5169712ef6e2a", func := "agora/agoralaw10.PowerStays", spec := "powerStays", inPlace := ["internal/bytealg.IndexByteString", "internal/bytealg.IndexString"], unfollowed := true, recurses := true, named := ["unicode/utf8.first", "unicode/utf8.acceptRanges", "internal/bytealg.MaxLen"], apart := false, laid := [("unicode/utf8.acceptRanges", laid_unicode_utf8_acceptRanges), ("unicode/utf8.first", laid_unicode_utf8_first)] }
def PowerStaysSaid : Prop := powerStaysRow.holds Tryd.pinned (OpenSpec.ofChange powerStaysSpec)

/-- ITS FALSE NEIGHBOUR: 'it returns false'. Refute it at one input. -/
def powerStaysWrong : ChangeSpec := { name := "powerStays", fn := fun _ => fun
  | [d1, d2] => { results := [.lit (.bool false)], args := [d1, d2] }
  | _ => none }
def PowerStaysWrongFalsely : Prop := powerStaysRow.holds Tryd.pinned (OpenSpec.ofChange powerStaysWrong)

/-- 'agoralaw10.PowerLifts': WHATEVER THE INPUT: true; the input reads as it did. -/
def powerLiftsSpec : ChangeSpec := { name := "powerLifts", fn := fun _ => fun
  | [d1, d2, d3] => { results := [.lit (.bool true)], args := [d1, d2, d3] }
  | _ => none }
def powerLiftsRow : OpenClaim := { program := "ytniaafncmnilgaadoor", sum := "44fe9494a6b9fe4ba649f54bc1aee53857c00c1ec80f36f710f5169712ef6e2a", func := "agora/agoralaw10.PowerLifts", spec := "powerLifts", inPlace := ["internal/bytealg.IndexByteString", "internal/bytealg.IndexString"], unfollowed := true, recurses := true, named := ["unicode/utf8.first", "unicode/utf8.acceptRanges", "internal/bytealg.MaxLen"], apart := false, laid := [("unicode/utf8.acceptRanges", laid_unicode_utf8_acceptRanges), ("unicode/utf8.first", laid_unicode_utf8_first)] }
def PowerLiftsSaid : Prop := powerLiftsRow.holds Tryd.pinned (OpenSpec.ofChange powerLiftsSpec)

/-- ITS FALSE NEIGHBOUR: 'it returns false'. Refute it at one input. -/
def powerLiftsWrong : ChangeSpec := { name := "powerLifts", fn := fun _ => fun
  | [d1, d2, d3] => { results := [.lit (.bool false)], args := [d1, d2, d3] }
  | _ => none }
def PowerLiftsWrongFalsely : Prop := powerLiftsRow.holds Tryd.pinned (OpenSpec.ofChange powerLiftsWrong)

/-- 'agoralaw10.PowerTells': WHATEVER THE INPUT: true; the input reads as it did. -/
def powerTellsSpec : ChangeSpec := { name := "powerTells", fn := fun _ => fun
  | [d1, d2, d3] => { results := [.lit (.bool true)], args := [d1, d2, d3] }
  | _ => none }
def powerTellsRow : OpenClaim := { program := "ytniaafncmnilgaadoor", sum := "44fe9494a6b9fe4ba649f54bc1aee53857c00c1ec80f36f710f5169712ef6e2a", func := "agora/agoralaw10.PowerTells", spec := "powerTells", inPlace := ["internal/bytealg.IndexByteString", "internal/bytealg.IndexString"], unfollowed := true, recurses := true, named := ["unicode/utf8.first", "unicode/utf8.acceptRanges", "internal/bytealg.MaxLen"], loops := true, apart := false, laid := [("unicode/utf8.acceptRanges", laid_unicode_utf8_acceptRanges), ("unicode/utf8.first", laid_unicode_utf8_first)] }
def PowerTellsSaid : Prop := powerTellsRow.holds Tryd.pinned (OpenSpec.ofChange powerTellsSpec)

/-- ITS FALSE NEIGHBOUR: 'it returns false'. Refute it at one input. -/
def powerTellsWrong : ChangeSpec := { name := "powerTells", fn := fun _ => fun
  | [d1, d2, d3] => { results := [.lit (.bool false)], args := [d1, d2, d3] }
  | _ => none }
def PowerTellsWrongFalsely : Prop := powerTellsRow.holds Tryd.pinned (OpenSpec.ofChange powerTellsWrong)

/-- 'agoralaw10.PowerLevels': WHATEVER THE INPUT: true; the input reads as it did. -/
def powerLevelsSpec : ChangeSpec := { name := "powerLevels", fn := fun _ => fun
  | [d1, d2, d3] => { results := [.lit (.bool true)], args := [d1, d2, d3] }
  | _ => none }
def powerLevelsRow : OpenClaim := { program := "ytniaafncmnilgaadoor", sum := "44fe9494a6b9fe4ba649f54bc1aee53857c00c1ec80f36f710f5169712ef6e2a", func := "agora/agoralaw10.PowerLevels", spec := "powerLevels", inPlace := ["internal/bytealg.IndexByteString", "internal/bytealg.IndexString"], unfollowed := true, recurses := true, named := ["unicode/utf8.first", "unicode/utf8.acceptRanges", "internal/bytealg.MaxLen"], apart := false, laid := [("unicode/utf8.acceptRanges", laid_unicode_utf8_acceptRanges), ("unicode/utf8.first", laid_unicode_utf8_first)] }
def PowerLevelsSaid : Prop := powerLevelsRow.holds Tryd.pinned (OpenSpec.ofChange powerLevelsSpec)

/-- ITS FALSE NEIGHBOUR: 'it returns false'. Refute it at one input. -/
def powerLevelsWrong : ChangeSpec := { name := "powerLevels", fn := fun _ => fun
  | [d1, d2, d3] => { results := [.lit (.bool false)], args := [d1, d2, d3] }
  | _ => none }
def PowerLevelsWrongFalsely : Prop := powerLevelsRow.holds Tryd.pinned (OpenSpec.ofChange powerLevelsWrong)

/- THE SECOND FORM. 'bulk': how many values and letters a reading holds, each counted each time it is reached (what is shared counts as often as it is met; a slice's spare places count too). A statement '..UptoSaid' is the law's where the arguments, and the package variables that the reading takes, are together of bulk at most 1048576: NARROWER than '..Said'. Prove '..Said' where nothing that the law and all that it calls make is longer than what came in: it says more and counts as full. Else prove '..UptoSaid'. A law counts once. -/
mutual
def uptoBulk {H : Type} : DataW H → Nat
  | .lit (.string bytes) => bytes.length + 1
  | .lit _ => 1
  | .nil => 1
  | .ptr d => uptoBulk d + 1
  | .slice elems spare => uptoBulkAll elems + uptoBulkAll spare + 1
  | .agg parts => uptoBulkAll parts + 1
  | .iface _ d => uptoBulk d + 1
  | .map entries => uptoBulkEntries entries + 1
  | .held _ => 1
def uptoBulkAll {H : Type} : List (DataW H) → Nat
  | [] => 0
  | d :: r => uptoBulk d + uptoBulkAll r
def uptoBulkEntries {H : Type} : List (Lit × DataW H) → Nat
  | [] => 0
  | x :: r => uptoBulkEntry x + uptoBulkEntries r
def uptoBulkEntry {H : Type} : Lit × DataW H → Nat
  | (.string bytes, d) => bytes.length + uptoBulk d + 1
  | (_, d) => uptoBulk d + 1
 end
def uptoSmall : (H : Type) → List (DataW H) → Bool := fun _ ds => decide (uptoBulkAll ds ≤ 1048576)
def OpenSpec.upto (s : _root_.Go.ChangeSpec) : _root_.Go.OpenSpec := { _root_.Go.OpenSpec.ofChange s with cond := some uptoSmall }

/-- 'agoralaw10.PowerMay', WHERE WHAT IT READS IS OF BULK AT MOST 1048576: true; the input reads as it did. -/
def powerMayUptoRow : OpenClaim := { program := "ytniaafncmnilgaadoor", sum := "44fe9494a6b9fe4ba649f54bc1aee53857c00c1ec80f36f710f5169712ef6e2a", func := "agora/agoralaw10.PowerMay", spec := "powerMay", inPlace := ["internal/bytealg.IndexByteString", "internal/bytealg.IndexString"], unfollowed := true, recurses := true, named := ["unicode/utf8.first", "unicode/utf8.acceptRanges", "internal/bytealg.MaxLen"], apart := false, laid := [("unicode/utf8.acceptRanges", laid_unicode_utf8_acceptRanges), ("unicode/utf8.first", laid_unicode_utf8_first)], narrowed := true }
def PowerMayUptoSaid : Prop := powerMayUptoRow.holds Tryd.pinned (OpenSpec.upto powerMaySpec)

/-- 'agoralaw10.PowerStays', WHERE WHAT IT READS IS OF BULK AT MOST 1048576: true; the input reads as it did. -/
def powerStaysUptoRow : OpenClaim := { program := "ytniaafncmnilgaadoor", sum := "44fe9494a6b9fe4ba649f54bc1aee53857c00c1ec80f36f710f5169712ef6e2a", func := "agora/agoralaw10.PowerStays", spec := "powerStays", inPlace := ["internal/bytealg.IndexByteString", "internal/bytealg.IndexString"], unfollowed := true, recurses := true, named := ["unicode/utf8.first", "unicode/utf8.acceptRanges", "internal/bytealg.MaxLen"], apart := false, laid := [("unicode/utf8.acceptRanges", laid_unicode_utf8_acceptRanges), ("unicode/utf8.first", laid_unicode_utf8_first)], narrowed := true }
def PowerStaysUptoSaid : Prop := powerStaysUptoRow.holds Tryd.pinned (OpenSpec.upto powerStaysSpec)

/-- 'agoralaw10.PowerLifts', WHERE WHAT IT READS IS OF BULK AT MOST 1048576: true; the input reads as it did. -/
def powerLiftsUptoRow : OpenClaim := { program := "ytniaafncmnilgaadoor", sum := "44fe9494a6b9fe4ba649f54bc1aee53857c00c1ec80f36f710f5169712ef6e2a", func := "agora/agoralaw10.PowerLifts", spec := "powerLifts", inPlace := ["internal/bytealg.IndexByteString", "internal/bytealg.IndexString"], unfollowed := true, recurses := true, named := ["unicode/utf8.first", "unicode/utf8.acceptRanges", "internal/bytealg.MaxLen"], apart := false, laid := [("unicode/utf8.acceptRanges", laid_unicode_utf8_acceptRanges), ("unicode/utf8.first", laid_unicode_utf8_first)], narrowed := true }
def PowerLiftsUptoSaid : Prop := powerLiftsUptoRow.holds Tryd.pinned (OpenSpec.upto powerLiftsSpec)

/-- 'agoralaw10.PowerTells', WHERE WHAT IT READS IS OF BULK AT MOST 1048576: true; the input reads as it did. -/
def powerTellsUptoRow : OpenClaim := { program := "ytniaafncmnilgaadoor", sum := "44fe9494a6b9fe4ba649f54bc1aee53857c00c1ec80f36f710f5169712ef6e2a", func := "agora/agoralaw10.PowerTells", spec := "powerTells", inPlace := ["internal/bytealg.IndexByteString", "internal/bytealg.IndexString"], unfollowed := true, recurses := true, named := ["unicode/utf8.first", "unicode/utf8.acceptRanges", "internal/bytealg.MaxLen"], loops := true, apart := false, laid := [("unicode/utf8.acceptRanges", laid_unicode_utf8_acceptRanges), ("unicode/utf8.first", laid_unicode_utf8_first)], narrowed := true }
def PowerTellsUptoSaid : Prop := powerTellsUptoRow.holds Tryd.pinned (OpenSpec.upto powerTellsSpec)

/-- 'agoralaw10.PowerLevels', WHERE WHAT IT READS IS OF BULK AT MOST 1048576: true; the input reads as it did. -/
def powerLevelsUptoRow : OpenClaim := { program := "ytniaafncmnilgaadoor", sum := "44fe9494a6b9fe4ba649f54bc1aee53857c00c1ec80f36f710f5169712ef6e2a", func := "agora/agoralaw10.PowerLevels", spec := "powerLevels", inPlace := ["internal/bytealg.IndexByteString", "internal/bytealg.IndexString"], unfollowed := true, recurses := true, named := ["unicode/utf8.first", "unicode/utf8.acceptRanges", "internal/bytealg.MaxLen"], apart := false, laid := [("unicode/utf8.acceptRanges", laid_unicode_utf8_acceptRanges), ("unicode/utf8.first", laid_unicode_utf8_first)], narrowed := true }
def PowerLevelsUptoSaid : Prop := powerLevelsUptoRow.holds Tryd.pinned (OpenSpec.upto powerLevelsSpec)

end Rows
end Go.Proofs.YtniaafncmnilgaaDoor
