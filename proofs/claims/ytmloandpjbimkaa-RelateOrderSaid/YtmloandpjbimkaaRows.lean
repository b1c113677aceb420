/-
  NARROWER THAN 'FOR EVERY INPUT', by the rows' own cells (each row's printed sentence says how): RelateOf: loops · RelateOthers: loops · RelateCounts: loops · RelateTells: loops · RelateOrder: loops · RelateSorts: loops.
  DERIVED. THE GIVEN ROWS OF THIS SEAT. 6 by the template 'for every input the law returns true; each argument reads behind the call as it read before'; 0 by the template 'total and deterministic' (their statements: YtmloandpjbimkaaTotals.lean).
  GIVEN WITH THE SEED: the statements are not yours to turn. If you find one false, say at which input.
  Laid BY PROGRAM, IN A SANDBOX (cutbox-rows.mjs): the forced cells as the released guide's own fill.sh prints them over the translation f60059fc87b283d1… (all of the seat's roots in one cut). By AI agents, Wed Nov 11 2026. No macro, syntax, notation, axiom, sorry.
-/
import Derived.Test.YtmloandpjbimkaaChecked
import GoSem.Claim
import GoSem.ClaimJoined
import GoSem.ClaimMapViews
import Derived.JoinedTies
import Derived.KernelRfl
namespace Go.Proofs.Ytmloandpjbimkaa
/- THE CELL 'sum', in the pinned program and in every row, IS THE sha256 OF THE DUMP (.gsa) THAT YtmloandpjbimkaaProg.lean LOADS. Nothing in Lean hashes anything: it is a label: what it is worth is what the hold of that sum in a sandbox is worth. -/
noncomputable def Try.pinned : Pinned := { name := "ytmloandpjbimkaa", sum := "f60059fc87b283d163466fd45e689e43480fda493fc9ddd5d72e19a31dadc9e5", checked := Try.checked }
namespace Rows
def none {H : Type} : Left H := { results := [], args := [] }

/-- 'agoralaw25.RelateOf': WHATEVER THE INPUT: true; the input reads as it did. -/
def relateOfSpec : ChangeSpec := { name := "relateOf", fn := fun _ => fun
  | [d] => { results := [.lit (.bool true)], args := [d] }
  | _ => none }
def relateOfRow : OpenClaim := { program := "ytmloandpjbimkaa", sum := "f60059fc87b283d163466fd45e689e43480fda493fc9ddd5d72e19a31dadc9e5", func := "agora/agoralaw25.RelateOf", spec := "relateOf", inPlace := ["internal/bytealg.IndexByteString"], unfollowed := true, recurses := true, loops := true, apart := false }
def RelateOfSaid : Prop := relateOfRow.holds Try.pinned (OpenSpec.ofChange relateOfSpec)

/-- ITS FALSE NEIGHBOUR: 'it returns false'. Refute it at one input. -/
def relateOfWrong : ChangeSpec := { name := "relateOf", fn := fun _ => fun
  | [d] => { results := [.lit (.bool false)], args := [d] }
  | _ => none }
def RelateOfWrongFalsely : Prop := relateOfRow.holds Try.pinned (OpenSpec.ofChange relateOfWrong)

/-- 'agoralaw25.RelateOthers': WHATEVER THE INPUT: true; the input reads as it did. -/
def relateOthersSpec : ChangeSpec := { name := "relateOthers", fn := fun _ => fun
  | [d1, d2, d3] => { results := [.lit (.bool true)], args := [d1, d2, d3] }
  | _ => none }
def relateOthersRow : OpenClaim := { program := "ytmloandpjbimkaa", sum := "f60059fc87b283d163466fd45e689e43480fda493fc9ddd5d72e19a31dadc9e5", func := "agora/agoralaw25.RelateOthers", spec := "relateOthers", inPlace := ["internal/bytealg.IndexByteString"], unfollowed := true, recurses := true, loops := true, apart := false }
def RelateOthersSaid : Prop := relateOthersRow.holds Try.pinned (OpenSpec.ofChange relateOthersSpec)

/-- ITS FALSE NEIGHBOUR: 'it returns false'. Refute it at one input. -/
def relateOthersWrong : ChangeSpec := { name := "relateOthers", fn := fun _ => fun
  | [d1, d2, d3] => { results := [.lit (.bool false)], args := [d1, d2, d3] }
  | _ => none }
def RelateOthersWrongFalsely : Prop := relateOthersRow.holds Try.pinned (OpenSpec.ofChange relateOthersWrong)

/-- 'agoralaw25.RelateCounts': WHATEVER THE INPUT: true; the input reads as it did. -/
def relateCountsSpec : ChangeSpec := { name := "relateCounts", fn := fun _ => fun
  | [d1, d2, d3] => { results := [.lit (.bool true)], args := [d1, d2, d3] }
  | _ => none }
def relateCountsRow : OpenClaim := { program := "ytmloandpjbimkaa", sum := "f60059fc87b283d163466fd45e689e43480fda493fc9ddd5d72e19a31dadc9e5", func := "agora/agoralaw25.RelateCounts", spec := "relateCounts", inPlace := ["internal/bytealg.IndexByteString"], unfollowed := true, recurses := true, loops := true, apart := false }
def RelateCountsSaid : Prop := relateCountsRow.holds Try.pinned (OpenSpec.ofChange relateCountsSpec)

/-- ITS FALSE NEIGHBOUR: 'it returns false'. Refute it at one input. -/
def relateCountsWrong : ChangeSpec := { name := "relateCounts", fn := fun _ => fun
  | [d1, d2, d3] => { results := [.lit (.bool false)], args := [d1, d2, d3] }
  | _ => none }
def RelateCountsWrongFalsely : Prop := relateCountsRow.holds Try.pinned (OpenSpec.ofChange relateCountsWrong)

/-- 'agoralaw25.RelateTells': WHATEVER THE INPUT: true; the input reads as it did. -/
def relateTellsSpec : ChangeSpec := { name := "relateTells", fn := fun _ => fun
  | [d1, d2] => { results := [.lit (.bool true)], args := [d1, d2] }
  | _ => none }
def relateTellsRow : OpenClaim := { program := "ytmloandpjbimkaa", sum := "f60059fc87b283d163466fd45e689e43480fda493fc9ddd5d72e19a31dadc9e5", func := "agora/agoralaw25.RelateTells", spec := "relateTells", inPlace := ["internal/bytealg.IndexByteString"], unfollowed := true, recurses := true, loops := true, apart := false }
def RelateTellsSaid : Prop := relateTellsRow.holds Try.pinned (OpenSpec.ofChange relateTellsSpec)

/-- ITS FALSE NEIGHBOUR: 'it returns false'. Refute it at one input. -/
def relateTellsWrong : ChangeSpec := { name := "relateTells", fn := fun _ => fun
  | [d1, d2] => { results := [.lit (.bool false)], args := [d1, d2] }
  | _ => none }
def RelateTellsWrongFalsely : Prop := relateTellsRow.holds Try.pinned (OpenSpec.ofChange relateTellsWrong)

/-- 'agoralaw25.RelateOrder': WHATEVER THE INPUT: true; the input reads as it did. -/
def relateOrderSpec : ChangeSpec := { name := "relateOrder", fn := fun _ => fun
  | [d1, d2, d3] => { results := [.lit (.bool true)], args := [d1, d2, d3] }
  | _ => none }
def relateOrderRow : OpenClaim := { program := "ytmloandpjbimkaa", sum := "f60059fc87b283d163466fd45e689e43480fda493fc9ddd5d72e19a31dadc9e5", func := "agora/agoralaw25.RelateOrder", spec := "relateOrder", inPlace := ["internal/bytealg.IndexByteString"], unfollowed := true, recurses := true, loops := true, apart := false }
def RelateOrderSaid : Prop := relateOrderRow.holds Try.pinned (OpenSpec.ofChange relateOrderSpec)

/-- ITS FALSE NEIGHBOUR: 'it returns false'. Refute it at one input. -/
def relateOrderWrong : ChangeSpec := { name := "relateOrder", fn := fun _ => fun
  | [d1, d2, d3] => { results := [.lit (.bool false)], args := [d1, d2, d3] }
  | _ => none }
def RelateOrderWrongFalsely : Prop := relateOrderRow.holds Try.pinned (OpenSpec.ofChange relateOrderWrong)

/-- 'agoralaw25.RelateSorts': WHATEVER THE INPUT: true; the input reads as it did. -/
def relateSortsSpec : ChangeSpec := { name := "relateSorts", fn := fun _ => fun
  | [d1, d2] => { results := [.lit (.bool true)], args := [d1, d2] }
  | _ => none }
def relateSortsRow : OpenClaim := { program := "ytmloandpjbimkaa", sum := "f60059fc87b283d163466fd45e689e43480fda493fc9ddd5d72e19a31dadc9e5", func := "agora/agoralaw25.RelateSorts", spec := "relateSorts", inPlace := ["internal/bytealg.IndexByteString"], unfollowed := true, recurses := true, loops := true, apart := false }
def RelateSortsSaid : Prop := relateSortsRow.holds Try.pinned (OpenSpec.ofChange relateSortsSpec)

/-- ITS FALSE NEIGHBOUR: 'it returns false'. Refute it at one input. -/
def relateSortsWrong : ChangeSpec := { name := "relateSorts", fn := fun _ => fun
  | [d1, d2] => { results := [.lit (.bool false)], args := [d1, d2] }
  | _ => none }
def RelateSortsWrongFalsely : Prop := relateSortsRow.holds Try.pinned (OpenSpec.ofChange relateSortsWrong)

/- THE SECOND FORM. 'bulk': how many values and letters a reading holds, each counted each time it is reached (what is shared counts as often as it is met; a slice's spare places count too). A statement '..UptoSaid' is the law's where the arguments, and the package variables that the reading takes, are together of bulk at most 1048576: NARROWER than '..Said'. Prove '..Said' where nothing that the law and all that it calls make is longer than what came in: it says more and counts as full. Else prove '..UptoSaid'. A law counts once. -/
mutual
def uptoBulk {H : Type} : DataW H → Nat
  | .lit (.string bytes) => bytes.length + 1
  | .lit _ => 1
  | .nil => 1
  | .ptr d => uptoBulk d + 1
  | .slice elems spare => uptoBulkAll elems + uptoBulkAll spare + 1
  | .agg parts => uptoBulkAll parts + 1
  | .iface _ d => uptoBulk d + 1
  | .map entries => uptoBulkEntries entries + 1
  | .held _ => 1
def uptoBulkAll {H : Type} : List (DataW H) → Nat
  | [] => 0
  | d :: r => uptoBulk d + uptoBulkAll r
def uptoBulkEntries {H : Type} : List (Lit × DataW H) → Nat
  | [] => 0
  | x :: r => uptoBulkEntry x + uptoBulkEntries r
def uptoBulkEntry {H : Type} : Lit × DataW H → Nat
  | (.string bytes, d) => bytes.length + uptoBulk d + 1
  | (_, d) => uptoBulk d + 1
 end
def uptoSmall : (H : Type) → List (DataW H) → Bool := fun _ ds => decide (uptoBulkAll ds ≤ 1048576)
def OpenSpec.upto (s : _root_.Go.ChangeSpec) : _root_.Go.OpenSpec := { _root_.Go.OpenSpec.ofChange s with cond := some uptoSmall }

/-- 'agoralaw25.RelateOf', WHERE WHAT IT READS IS OF BULK AT MOST 1048576: true; the input reads as it did. -/
def relateOfUptoRow : OpenClaim := { program := "ytmloandpjbimkaa", sum := "f60059fc87b283d163466fd45e689e43480fda493fc9ddd5d72e19a31dadc9e5", func := "agora/agoralaw25.RelateOf", spec := "relateOf", inPlace := ["internal/bytealg.IndexByteString"], unfollowed := true, recurses := true, loops := true, apart := false, narrowed := true }
def RelateOfUptoSaid : Prop := relateOfUptoRow.holds Try.pinned (OpenSpec.upto relateOfSpec)

/-- 'agoralaw25.RelateOthers', WHERE WHAT IT READS IS OF BULK AT MOST 1048576: true; the input reads as it did. -/
def relateOthersUptoRow : OpenClaim := { program := "ytmloandpjbimkaa", sum := "f60059fc87b283d163466fd45e689e43480fda493fc9ddd5d72e19a31dadc9e5", func := "agora/agoralaw25.RelateOthers", spec := "relateOthers", inPlace := ["internal/bytealg.IndexByteString"], unfollowed := true, recurses := true, loops := true, apart := false, narrowed := true }
def RelateOthersUptoSaid : Prop := relateOthersUptoRow.holds Try.pinned (OpenSpec.upto relateOthersSpec)

/-- 'agoralaw25.RelateCounts', WHERE WHAT IT READS IS OF BULK AT MOST 1048576: true; the input reads as it did. -/
def relateCountsUptoRow : OpenClaim := { program := "ytmloandpjbimkaa", sum := "f60059fc87b283d163466fd45e689e43480fda493fc9ddd5d72e19a31dadc9e5", func := "agora/agoralaw25.RelateCounts", spec := "relateCounts", inPlace := ["internal/bytealg.IndexByteString"], unfollowed := true, recurses := true, loops := true, apart := false, narrowed := true }
def RelateCountsUptoSaid : Prop := relateCountsUptoRow.holds Try.pinned (OpenSpec.upto relateCountsSpec)

/-- 'agoralaw25.RelateTells', WHERE WHAT IT READS IS OF BULK AT MOST 1048576: true; the input reads as it did. -/
def relateTellsUptoRow : OpenClaim := { program := "ytmloandpjbimkaa", sum := "f60059fc87b283d163466fd45e689e43480fda493fc9ddd5d72e19a31dadc9e5", func := "agora/agoralaw25.RelateTells", spec := "relateTells", inPlace := ["internal/bytealg.IndexByteString"], unfollowed := true, recurses := true, loops := true, apart := false, narrowed := true }
def RelateTellsUptoSaid : Prop := relateTellsUptoRow.holds Try.pinned (OpenSpec.upto relateTellsSpec)

/-- 'agoralaw25.RelateOrder', WHERE WHAT IT READS IS OF BULK AT MOST 1048576: true; the input reads as it did. -/
def relateOrderUptoRow : OpenClaim := { program := "ytmloandpjbimkaa", sum := "f60059fc87b283d163466fd45e689e43480fda493fc9ddd5d72e19a31dadc9e5", func := "agora/agoralaw25.RelateOrder", spec := "relateOrder", inPlace := ["internal/bytealg.IndexByteString"], unfollowed := true, recurses := true, loops := true, apart := false, narrowed := true }
def RelateOrderUptoSaid : Prop := relateOrderUptoRow.holds Try.pinned (OpenSpec.upto relateOrderSpec)

/-- 'agoralaw25.RelateSorts', WHERE WHAT IT READS IS OF BULK AT MOST 1048576: true; the input reads as it did. -/
def relateSortsUptoRow : OpenClaim := { program := "ytmloandpjbimkaa", sum := "f60059fc87b283d163466fd45e689e43480fda493fc9ddd5d72e19a31dadc9e5", func := "agora/agoralaw25.RelateSorts", spec := "relateSorts", inPlace := ["internal/bytealg.IndexByteString"], unfollowed := true, recurses := true, loops := true, apart := false, narrowed := true }
def RelateSortsUptoSaid : Prop := relateSortsUptoRow.holds Try.pinned (OpenSpec.upto relateSortsSpec)

end Rows
end Go.Proofs.Ytmloandpjbimkaa
