/-
  No cell of these rows narrows 'for every input' (looked for: loops, veiled, ifaces, maps, wideKeys, modest, calm, conditions, laid).
  DERIVED. THE GIVEN ROWS OF THIS SEAT. 7 by the template 'for every input the law returns true; each argument reads behind the call as it read before'; 0 by the template 'total and deterministic' (their statements: YtbepggmidagbiaaTotals.lean).
  GIVEN WITH THE SEED: the statements are not yours to turn. If you find one false, say at which input.
  Laid BY PROGRAM, IN A SANDBOX (cutbox-rows.mjs): the forced cells as the released guide's own fill.sh prints them over the translation 042335e014b603cb… (all of the seat's roots in one cut). By AI agents, Wed Nov 11 2026. No macro, syntax, notation, axiom, sorry.
-/
import Derived.Test.YtbepggmidagbiaaChecked
import GoSem.Claim
import GoSem.ClaimJoined
import GoSem.ClaimMapViews
import Derived.JoinedTies
import Derived.KernelRfl
namespace Go.Proofs.Ytbepggmidagbiaa
/- THE CELL 'sum', in the pinned program and in every row, IS THE sha256 OF THE DUMP (.gsa) THAT YtbepggmidagbiaaProg.lean LOADS. Nothing in Lean hashes anything: it is a label: what it is worth is what the hold of that sum in a sandbox is worth. -/
noncomputable def Try.pinned : Pinned := { name := "ytbepggmidagbiaa", sum := "042335e014b603cb2abfa76f4d32c322f0ddc6afbbbd1894439d8aa857a0eb21", checked := Try.checked }
namespace Rows
def none {H : Type} : Left H := { results := [], args := [] }

/-- 'agoralaw09.OrderLinear': WHATEVER THE INPUT: true; the input reads as it did. -/
def orderLinearSpec : ChangeSpec := { name := "orderLinear", fn := fun _ => fun
  | [d1, d2] => { results := [.lit (.bool true)], args := [d1, d2] }
  | _ => none }
def orderLinearRow : OpenClaim := { program := "ytbepggmidagbiaa", sum := "042335e014b603cb2abfa76f4d32c322f0ddc6afbbbd1894439d8aa857a0eb21", func := "agora/agoralaw09.OrderLinear", spec := "orderLinear", inPlace := ["slices.overlaps[int]"], unfollowed := true, recurses := true, apart := false }
def OrderLinearSaid : Prop := orderLinearRow.holds Try.pinned (OpenSpec.ofChange orderLinearSpec)

/-- ITS FALSE NEIGHBOUR: 'it returns false'. Refute it at one input. -/
def orderLinearWrong : ChangeSpec := { name := "orderLinear", fn := fun _ => fun
  | [d1, d2] => { results := [.lit (.bool false)], args := [d1, d2] }
  | _ => none }
def OrderLinearWrongFalsely : Prop := orderLinearRow.holds Try.pinned (OpenSpec.ofChange orderLinearWrong)

/-- 'agoralaw09.OrderBehind': WHATEVER THE INPUT: true; the input reads as it did. -/
def orderBehindSpec : ChangeSpec := { name := "orderBehind", fn := fun _ => fun
  | [d1, d2] => { results := [.lit (.bool true)], args := [d1, d2] }
  | _ => none }
def orderBehindRow : OpenClaim := { program := "ytbepggmidagbiaa", sum := "042335e014b603cb2abfa76f4d32c322f0ddc6afbbbd1894439d8aa857a0eb21", func := "agora/agoralaw09.OrderBehind", spec := "orderBehind", inPlace := ["slices.overlaps[int]"], unfollowed := true, recurses := true, apart := false }
def OrderBehindSaid : Prop := orderBehindRow.holds Try.pinned (OpenSpec.ofChange orderBehindSpec)

/-- ITS FALSE NEIGHBOUR: 'it returns false'. Refute it at one input. -/
def orderBehindWrong : ChangeSpec := { name := "orderBehind", fn := fun _ => fun
  | [d1, d2] => { results := [.lit (.bool false)], args := [d1, d2] }
  | _ => none }
def OrderBehindWrongFalsely : Prop := orderBehindRow.holds Try.pinned (OpenSpec.ofChange orderBehindWrong)

/-- 'agoralaw09.OrderEver': WHATEVER THE INPUT: true; the input reads as it did. -/
def orderEverSpec : ChangeSpec := { name := "orderEver", fn := fun _ => fun
  | [d1, d2] => { results := [.lit (.bool true)], args := [d1, d2] }
  | _ => none }
def orderEverRow : OpenClaim := { program := "ytbepggmidagbiaa", sum := "042335e014b603cb2abfa76f4d32c322f0ddc6afbbbd1894439d8aa857a0eb21", func := "agora/agoralaw09.OrderEver", spec := "orderEver", inPlace := ["slices.overlaps[int]"], unfollowed := true, recurses := true, apart := false }
def OrderEverSaid : Prop := orderEverRow.holds Try.pinned (OpenSpec.ofChange orderEverSpec)

/-- ITS FALSE NEIGHBOUR: 'it returns false'. Refute it at one input. -/
def orderEverWrong : ChangeSpec := { name := "orderEver", fn := fun _ => fun
  | [d1, d2] => { results := [.lit (.bool false)], args := [d1, d2] }
  | _ => none }
def OrderEverWrongFalsely : Prop := orderEverRow.holds Try.pinned (OpenSpec.ofChange orderEverWrong)

/-- 'agoralaw09.OrderRanks': WHATEVER THE INPUT: true; the input reads as it did. -/
def orderRanksSpec : ChangeSpec := { name := "orderRanks", fn := fun _ => fun
  | [d] => { results := [.lit (.bool true)], args := [d] }
  | _ => none }
def orderRanksRow : OpenClaim := { program := "ytbepggmidagbiaa", sum := "042335e014b603cb2abfa76f4d32c322f0ddc6afbbbd1894439d8aa857a0eb21", func := "agora/agoralaw09.OrderRanks", spec := "orderRanks", inPlace := ["slices.overlaps[int]"], unfollowed := true, recurses := true, apart := false }
def OrderRanksSaid : Prop := orderRanksRow.holds Try.pinned (OpenSpec.ofChange orderRanksSpec)

/-- ITS FALSE NEIGHBOUR: 'it returns false'. Refute it at one input. -/
def orderRanksWrong : ChangeSpec := { name := "orderRanks", fn := fun _ => fun
  | [d] => { results := [.lit (.bool false)], args := [d] }
  | _ => none }
def OrderRanksWrongFalsely : Prop := orderRanksRow.holds Try.pinned (OpenSpec.ofChange orderRanksWrong)

/-- 'agoralaw09.OrderFirst': WHATEVER THE INPUT: true; the input reads as it did. -/
def orderFirstSpec : ChangeSpec := { name := "orderFirst", fn := fun _ => fun
  | [d1, d2] => { results := [.lit (.bool true)], args := [d1, d2] }
  | _ => none }
def orderFirstRow : OpenClaim := { program := "ytbepggmidagbiaa", sum := "042335e014b603cb2abfa76f4d32c322f0ddc6afbbbd1894439d8aa857a0eb21", func := "agora/agoralaw09.OrderFirst", spec := "orderFirst", inPlace := ["slices.overlaps[int]"], unfollowed := true, recurses := true, apart := false }
def OrderFirstSaid : Prop := orderFirstRow.holds Try.pinned (OpenSpec.ofChange orderFirstSpec)

/-- ITS FALSE NEIGHBOUR: 'it returns false'. Refute it at one input. -/
def orderFirstWrong : ChangeSpec := { name := "orderFirst", fn := fun _ => fun
  | [d1, d2] => { results := [.lit (.bool false)], args := [d1, d2] }
  | _ => none }
def OrderFirstWrongFalsely : Prop := orderFirstRow.holds Try.pinned (OpenSpec.ofChange orderFirstWrong)

/-- 'agoralaw09.OrderRows': WHATEVER THE INPUT: true; the input reads as it did. -/
def orderRowsSpec : ChangeSpec := { name := "orderRows", fn := fun _ => fun
  | [d] => { results := [.lit (.bool true)], args := [d] }
  | _ => none }
def orderRowsRow : OpenClaim := { program := "ytbepggmidagbiaa", sum := "042335e014b603cb2abfa76f4d32c322f0ddc6afbbbd1894439d8aa857a0eb21", func := "agora/agoralaw09.OrderRows", spec := "orderRows", inPlace := ["slices.overlaps[int]"], unfollowed := true, recurses := true, apart := false }
def OrderRowsSaid : Prop := orderRowsRow.holds Try.pinned (OpenSpec.ofChange orderRowsSpec)

/-- ITS FALSE NEIGHBOUR: 'it returns false'. Refute it at one input. -/
def orderRowsWrong : ChangeSpec := { name := "orderRows", fn := fun _ => fun
  | [d] => { results := [.lit (.bool false)], args := [d] }
  | _ => none }
def OrderRowsWrongFalsely : Prop := orderRowsRow.holds Try.pinned (OpenSpec.ofChange orderRowsWrong)

/-- 'agoralaw09.OrderParts': WHATEVER THE INPUT: true; the input reads as it did. -/
def orderPartsSpec : ChangeSpec := { name := "orderParts", fn := fun _ => fun
  | [d] => { results := [.lit (.bool true)], args := [d] }
  | _ => none }
def orderPartsRow : OpenClaim := { program := "ytbepggmidagbiaa", sum := "042335e014b603cb2abfa76f4d32c322f0ddc6afbbbd1894439d8aa857a0eb21", func := "agora/agoralaw09.OrderParts", spec := "orderParts", inPlace := ["slices.overlaps[int]"], unfollowed := true, recurses := true, apart := false }
def OrderPartsSaid : Prop := orderPartsRow.holds Try.pinned (OpenSpec.ofChange orderPartsSpec)

/-- ITS FALSE NEIGHBOUR: 'it returns false'. Refute it at one input. -/
def orderPartsWrong : ChangeSpec := { name := "orderParts", fn := fun _ => fun
  | [d] => { results := [.lit (.bool false)], args := [d] }
  | _ => none }
def OrderPartsWrongFalsely : Prop := orderPartsRow.holds Try.pinned (OpenSpec.ofChange orderPartsWrong)

/- THE SECOND FORM. 'bulk': how many values and letters a reading holds, each counted each time it is reached (what is shared counts as often as it is met; a slice's spare places count too). A statement '..UptoSaid' is the law's where the arguments, and the package variables that the reading takes, are together of bulk at most 1048576: NARROWER than '..Said'. Prove '..Said' where nothing that the law and all that it calls make is longer than what came in: it says more and counts as full. Else prove '..UptoSaid'. A law counts once. -/
mutual
def uptoBulk {H : Type} : DataW H → Nat
  | .lit (.string bytes) => bytes.length + 1
  | .lit _ => 1
  | .nil => 1
  | .ptr d => uptoBulk d + 1
  | .slice elems spare => uptoBulkAll elems + uptoBulkAll spare + 1
  | .agg parts => uptoBulkAll parts + 1
  | .iface _ d => uptoBulk d + 1
  | .map entries => uptoBulkEntries entries + 1
  | .held _ => 1
def uptoBulkAll {H : Type} : List (DataW H) → Nat
  | [] => 0
  | d :: r => uptoBulk d + uptoBulkAll r
def uptoBulkEntries {H : Type} : List (Lit × DataW H) → Nat
  | [] => 0
  | x :: r => uptoBulkEntry x + uptoBulkEntries r
def uptoBulkEntry {H : Type} : Lit × DataW H → Nat
  | (.string bytes, d) => bytes.length + uptoBulk d + 1
  | (_, d) => uptoBulk d + 1
 end
def uptoSmall : (H : Type) → List (DataW H) → Bool := fun _ ds => decide (uptoBulkAll ds ≤ 1048576)
def OpenSpec.upto (s : _root_.Go.ChangeSpec) : _root_.Go.OpenSpec := { _root_.Go.OpenSpec.ofChange s with cond := some uptoSmall }

/-- 'agoralaw09.OrderLinear', WHERE WHAT IT READS IS OF BULK AT MOST 1048576: true; the input reads as it did. -/
def orderLinearUptoRow : OpenClaim := { program := "ytbepggmidagbiaa", sum := "042335e014b603cb2abfa76f4d32c322f0ddc6afbbbd1894439d8aa857a0eb21", func := "agora/agoralaw09.OrderLinear", spec := "orderLinear", inPlace := ["slices.overlaps[int]"], unfollowed := true, recurses := true, apart := false, narrowed := true }
def OrderLinearUptoSaid : Prop := orderLinearUptoRow.holds Try.pinned (OpenSpec.upto orderLinearSpec)

/-- 'agoralaw09.OrderBehind', WHERE WHAT IT READS IS OF BULK AT MOST 1048576: true; the input reads as it did. -/
def orderBehindUptoRow : OpenClaim := { program := "ytbepggmidagbiaa", sum := "042335e014b603cb2abfa76f4d32c322f0ddc6afbbbd1894439d8aa857a0eb21", func := "agora/agoralaw09.OrderBehind", spec := "orderBehind", inPlace := ["slices.overlaps[int]"], unfollowed := true, recurses := true, apart := false, narrowed := true }
def OrderBehindUptoSaid : Prop := orderBehindUptoRow.holds Try.pinned (OpenSpec.upto orderBehindSpec)

/-- 'agoralaw09.OrderEver', WHERE WHAT IT READS IS OF BULK AT MOST 1048576: true; the input reads as it did. -/
def orderEverUptoRow : OpenClaim := { program := "ytbepggmidagbiaa", sum := "042335e014b603cb2abfa76f4d32c322f0ddc6afbbbd1894439d8aa857a0eb21", func := "agora/agoralaw09.OrderEver", spec := "orderEver", inPlace := ["slices.overlaps[int]"], unfollowed := true, recurses := true, apart := false, narrowed := true }
def OrderEverUptoSaid : Prop := orderEverUptoRow.holds Try.pinned (OpenSpec.upto orderEverSpec)

/-- 'agoralaw09.OrderRanks', WHERE WHAT IT READS IS OF BULK AT MOST 1048576: true; the input reads as it did. -/
def orderRanksUptoRow : OpenClaim := { program := "ytbepggmidagbiaa", sum := "042335e014b603cb2abfa76f4d32c322f0ddc6afbbbd1894439d8aa857a0eb21", func := "agora/agoralaw09.OrderRanks", spec := "orderRanks", inPlace := ["slices.overlaps[int]"], unfollowed := true, recurses := true, apart := false, narrowed := true }
def OrderRanksUptoSaid : Prop := orderRanksUptoRow.holds Try.pinned (OpenSpec.upto orderRanksSpec)

/-- 'agoralaw09.OrderFirst', WHERE WHAT IT READS IS OF BULK AT MOST 1048576: true; the input reads as it did. -/
def orderFirstUptoRow : OpenClaim := { program := "ytbepggmidagbiaa", sum := "042335e014b603cb2abfa76f4d32c322f0ddc6afbbbd1894439d8aa857a0eb21", func := "agora/agoralaw09.OrderFirst", spec := "orderFirst", inPlace := ["slices.overlaps[int]"], unfollowed := true, recurses := true, apart := false, narrowed := true }
def OrderFirstUptoSaid : Prop := orderFirstUptoRow.holds Try.pinned (OpenSpec.upto orderFirstSpec)

/-- 'agoralaw09.OrderRows', WHERE WHAT IT READS IS OF BULK AT MOST 1048576: true; the input reads as it did. -/
def orderRowsUptoRow : OpenClaim := { program := "ytbepggmidagbiaa", sum := "042335e014b603cb2abfa76f4d32c322f0ddc6afbbbd1894439d8aa857a0eb21", func := "agora/agoralaw09.OrderRows", spec := "orderRows", inPlace := ["slices.overlaps[int]"], unfollowed := true, recurses := true, apart := false, narrowed := true }
def OrderRowsUptoSaid : Prop := orderRowsUptoRow.holds Try.pinned (OpenSpec.upto orderRowsSpec)

/-- 'agoralaw09.OrderParts', WHERE WHAT IT READS IS OF BULK AT MOST 1048576: true; the input reads as it did. -/
def orderPartsUptoRow : OpenClaim := { program := "ytbepggmidagbiaa", sum := "042335e014b603cb2abfa76f4d32c322f0ddc6afbbbd1894439d8aa857a0eb21", func := "agora/agoralaw09.OrderParts", spec := "orderParts", inPlace := ["slices.overlaps[int]"], unfollowed := true, recurses := true, apart := false, narrowed := true }
def OrderPartsUptoSaid : Prop := orderPartsUptoRow.holds Try.pinned (OpenSpec.upto orderPartsSpec)

end Rows
end Go.Proofs.Ytbepggmidagbiaa
