/-
  No cell of these rows narrows 'for every input' (looked for: loops, veiled, ifaces, maps, wideKeys, modest, calm, conditions, laid).
  DERIVED. THE GIVEN ROWS OF THIS SEAT. 5 by the template 'for every input the law returns true; each argument reads behind the call as it read before'; 0 by the template 'total and deterministic' (their statements: YtpdfgmedbphmkaaTotals.lean).
  GIVEN WITH THE SEED: the statements are not yours to turn. If you find one false, say at which input.
  Laid BY PROGRAM, IN A SANDBOX (cutbox-rows.mjs): the forced cells as the released guide's own fill.sh prints them over the translation 3c88cdd5de03fd1e… (all of the seat's roots in one cut). By AI agents, Wed Nov 11 2026. No macro, syntax, notation, axiom, sorry.
-/
import Derived.Test.YtpdfgmedbphmkaaChecked
import GoSem.Claim
import GoSem.ClaimJoined
import GoSem.ClaimMapViews
import Derived.JoinedTies
import Derived.KernelRfl
namespace Go.Proofs.Ytpdfgmedbphmkaa
/- THE CELL 'sum', in the pinned program and in every row, IS THE sha256 OF THE DUMP (.gsa) THAT YtpdfgmedbphmkaaProg.lean LOADS. Nothing in Lean hashes anything: it is a label: what it is worth is what the hold of that sum in a sandbox is worth. -/
noncomputable def Try.pinned : Pinned := { name := "ytpdfgmedbphmkaa", sum := "3c88cdd5de03fd1ec6581f1c848b51569f976ad07db7f7d75bac081fcd3173fa", checked := Try.checked }
namespace Rows
def none {H : Type} : Left H := { results := [], args := [] }

/-- 'agoralaw26.ReceiptUnread': WHATEVER THE INPUT: true; the input reads as it did. -/
def receiptUnreadSpec : ChangeSpec := { name := "receiptUnread", fn := fun _ => fun
  | [d1, d2, d3] => { results := [.lit (.bool true)], args := [d1, d2, d3] }
  | _ => none }
def receiptUnreadRow : OpenClaim := { program := "ytpdfgmedbphmkaa", sum := "3c88cdd5de03fd1ec6581f1c848b51569f976ad07db7f7d75bac081fcd3173fa", func := "agora/agoralaw26.ReceiptUnread", spec := "receiptUnread", inPlace := ["internal/bytealg.IndexByteString", "internal/bytealg.IndexString"], unfollowed := true, recurses := true, named := ["internal/bytealg.MaxLen"], apart := false }
def ReceiptUnreadSaid : Prop := receiptUnreadRow.holds Try.pinned (OpenSpec.ofChange receiptUnreadSpec)

/-- ITS FALSE NEIGHBOUR: 'it returns false'. Refute it at one input. -/
def receiptUnreadWrong : ChangeSpec := { name := "receiptUnread", fn := fun _ => fun
  | [d1, d2, d3] => { results := [.lit (.bool false)], args := [d1, d2, d3] }
  | _ => none }
def ReceiptUnreadWrongFalsely : Prop := receiptUnreadRow.holds Try.pinned (OpenSpec.ofChange receiptUnreadWrong)

/-- 'agoralaw26.ReceiptOrder': WHATEVER THE INPUT: true; the input reads as it did. -/
def receiptOrderSpec : ChangeSpec := { name := "receiptOrder", fn := fun _ => fun
  | [d] => { results := [.lit (.bool true)], args := [d] }
  | _ => none }
def receiptOrderRow : OpenClaim := { program := "ytpdfgmedbphmkaa", sum := "3c88cdd5de03fd1ec6581f1c848b51569f976ad07db7f7d75bac081fcd3173fa", func := "agora/agoralaw26.ReceiptOrder", spec := "receiptOrder", inPlace := ["internal/bytealg.IndexByteString", "internal/bytealg.IndexString"], unfollowed := true, recurses := true, named := ["internal/bytealg.MaxLen"], apart := false }
def ReceiptOrderSaid : Prop := receiptOrderRow.holds Try.pinned (OpenSpec.ofChange receiptOrderSpec)

/-- ITS FALSE NEIGHBOUR: 'it returns false'. Refute it at one input. -/
def receiptOrderWrong : ChangeSpec := { name := "receiptOrder", fn := fun _ => fun
  | [d] => { results := [.lit (.bool false)], args := [d] }
  | _ => none }
def ReceiptOrderWrongFalsely : Prop := receiptOrderRow.holds Try.pinned (OpenSpec.ofChange receiptOrderWrong)

/-- 'agoralaw26.ReceiptGrows': WHATEVER THE INPUT: true; the input reads as it did. -/
def receiptGrowsSpec : ChangeSpec := { name := "receiptGrows", fn := fun _ => fun
  | [d1, d2, d3] => { results := [.lit (.bool true)], args := [d1, d2, d3] }
  | _ => none }
def receiptGrowsRow : OpenClaim := { program := "ytpdfgmedbphmkaa", sum := "3c88cdd5de03fd1ec6581f1c848b51569f976ad07db7f7d75bac081fcd3173fa", func := "agora/agoralaw26.ReceiptGrows", spec := "receiptGrows", inPlace := ["internal/bytealg.IndexByteString", "internal/bytealg.IndexString"], unfollowed := true, recurses := true, named := ["internal/bytealg.MaxLen"], apart := false }
def ReceiptGrowsSaid : Prop := receiptGrowsRow.holds Try.pinned (OpenSpec.ofChange receiptGrowsSpec)

/-- ITS FALSE NEIGHBOUR: 'it returns false'. Refute it at one input. -/
def receiptGrowsWrong : ChangeSpec := { name := "receiptGrows", fn := fun _ => fun
  | [d1, d2, d3] => { results := [.lit (.bool false)], args := [d1, d2, d3] }
  | _ => none }
def ReceiptGrowsWrongFalsely : Prop := receiptGrowsRow.holds Try.pinned (OpenSpec.ofChange receiptGrowsWrong)

/-- 'agoralaw26.ReceiptPlays': WHATEVER THE INPUT: true; the input reads as it did. -/
def receiptPlaysSpec : ChangeSpec := { name := "receiptPlays", fn := fun _ => fun
  | [d1, d2, d3] => { results := [.lit (.bool true)], args := [d1, d2, d3] }
  | _ => none }
def receiptPlaysRow : OpenClaim := { program := "ytpdfgmedbphmkaa", sum := "3c88cdd5de03fd1ec6581f1c848b51569f976ad07db7f7d75bac081fcd3173fa", func := "agora/agoralaw26.ReceiptPlays", spec := "receiptPlays", inPlace := ["internal/bytealg.IndexByteString", "internal/bytealg.IndexString"], unfollowed := true, recurses := true, named := ["internal/bytealg.MaxLen"], apart := false }
def ReceiptPlaysSaid : Prop := receiptPlaysRow.holds Try.pinned (OpenSpec.ofChange receiptPlaysSpec)

/-- ITS FALSE NEIGHBOUR: 'it returns false'. Refute it at one input. -/
def receiptPlaysWrong : ChangeSpec := { name := "receiptPlays", fn := fun _ => fun
  | [d1, d2, d3] => { results := [.lit (.bool false)], args := [d1, d2, d3] }
  | _ => none }
def ReceiptPlaysWrongFalsely : Prop := receiptPlaysRow.holds Try.pinned (OpenSpec.ofChange receiptPlaysWrong)

/-- 'agoralaw26.ReceiptMerges': WHATEVER THE INPUT: true; the input reads as it did. -/
def receiptMergesSpec : ChangeSpec := { name := "receiptMerges", fn := fun _ => fun
  | [d1, d2, d3] => { results := [.lit (.bool true)], args := [d1, d2, d3] }
  | _ => none }
def receiptMergesRow : OpenClaim := { program := "ytpdfgmedbphmkaa", sum := "3c88cdd5de03fd1ec6581f1c848b51569f976ad07db7f7d75bac081fcd3173fa", func := "agora/agoralaw26.ReceiptMerges", spec := "receiptMerges", inPlace := ["internal/bytealg.IndexByteString", "internal/bytealg.IndexString"], unfollowed := true, recurses := true, named := ["internal/bytealg.MaxLen"], apart := false }
def ReceiptMergesSaid : Prop := receiptMergesRow.holds Try.pinned (OpenSpec.ofChange receiptMergesSpec)

/-- ITS FALSE NEIGHBOUR: 'it returns false'. Refute it at one input. -/
def receiptMergesWrong : ChangeSpec := { name := "receiptMerges", fn := fun _ => fun
  | [d1, d2, d3] => { results := [.lit (.bool false)], args := [d1, d2, d3] }
  | _ => none }
def ReceiptMergesWrongFalsely : Prop := receiptMergesRow.holds Try.pinned (OpenSpec.ofChange receiptMergesWrong)

/- THE SECOND FORM. 'bulk': how many values and letters a reading holds, each counted each time it is reached (what is shared counts as often as it is met; a slice's spare places count too). A statement '..UptoSaid' is the law's where the arguments, and the package variables that the reading takes, are together of bulk at most 1048576: NARROWER than '..Said'. Prove '..Said' where nothing that the law and all that it calls make is longer than what came in: it says more and counts as full. Else prove '..UptoSaid'. A law counts once. -/
mutual
def uptoBulk {H : Type} : DataW H → Nat
  | .lit (.string bytes) => bytes.length + 1
  | .lit _ => 1
  | .nil => 1
  | .ptr d => uptoBulk d + 1
  | .slice elems spare => uptoBulkAll elems + uptoBulkAll spare + 1
  | .agg parts => uptoBulkAll parts + 1
  | .iface _ d => uptoBulk d + 1
  | .map entries => uptoBulkEntries entries + 1
  | .held _ => 1
def uptoBulkAll {H : Type} : List (DataW H) → Nat
  | [] => 0
  | d :: r => uptoBulk d + uptoBulkAll r
def uptoBulkEntries {H : Type} : List (Lit × DataW H) → Nat
  | [] => 0
  | x :: r => uptoBulkEntry x + uptoBulkEntries r
def uptoBulkEntry {H : Type} : Lit × DataW H → Nat
  | (.string bytes, d) => bytes.length + uptoBulk d + 1
  | (_, d) => uptoBulk d + 1
 end
def uptoSmall : (H : Type) → List (DataW H) → Bool := fun _ ds => decide (uptoBulkAll ds ≤ 1048576)
def OpenSpec.upto (s : _root_.Go.ChangeSpec) : _root_.Go.OpenSpec := { _root_.Go.OpenSpec.ofChange s with cond := some uptoSmall }

/-- 'agoralaw26.ReceiptUnread', WHERE WHAT IT READS IS OF BULK AT MOST 1048576: true; the input reads as it did. -/
def receiptUnreadUptoRow : OpenClaim := { program := "ytpdfgmedbphmkaa", sum := "3c88cdd5de03fd1ec6581f1c848b51569f976ad07db7f7d75bac081fcd3173fa", func := "agora/agoralaw26.ReceiptUnread", spec := "receiptUnread", inPlace := ["internal/bytealg.IndexByteString", "internal/bytealg.IndexString"], unfollowed := true, recurses := true, named := ["internal/bytealg.MaxLen"], apart := false, narrowed := true }
def ReceiptUnreadUptoSaid : Prop := receiptUnreadUptoRow.holds Try.pinned (OpenSpec.upto receiptUnreadSpec)

/-- 'agoralaw26.ReceiptOrder', WHERE WHAT IT READS IS OF BULK AT MOST 1048576: true; the input reads as it did. -/
def receiptOrderUptoRow : OpenClaim := { program := "ytpdfgmedbphmkaa", sum := "3c88cdd5de03fd1ec6581f1c848b51569f976ad07db7f7d75bac081fcd3173fa", func := "agora/agoralaw26.ReceiptOrder", spec := "receiptOrder", inPlace := ["internal/bytealg.IndexByteString", "internal/bytealg.IndexString"], unfollowed := true, recurses := true, named := ["internal/bytealg.MaxLen"], apart := false, narrowed := true }
def ReceiptOrderUptoSaid : Prop := receiptOrderUptoRow.holds Try.pinned (OpenSpec.upto receiptOrderSpec)

/-- 'agoralaw26.ReceiptGrows', WHERE WHAT IT READS IS OF BULK AT MOST 1048576: true; the input reads as it did. -/
def receiptGrowsUptoRow : OpenClaim := { program := "ytpdfgmedbphmkaa", sum := "3c88cdd5de03fd1ec6581f1c848b51569f976ad07db7f7d75bac081fcd3173fa", func := "agora/agoralaw26.ReceiptGrows", spec := "receiptGrows", inPlace := ["internal/bytealg.IndexByteString", "internal/bytealg.IndexString"], unfollowed := true, recurses := true, named := ["internal/bytealg.MaxLen"], apart := false, narrowed := true }
def ReceiptGrowsUptoSaid : Prop := receiptGrowsUptoRow.holds Try.pinned (OpenSpec.upto receiptGrowsSpec)

/-- 'agoralaw26.ReceiptPlays', WHERE WHAT IT READS IS OF BULK AT MOST 1048576: true; the input reads as it did. -/
def receiptPlaysUptoRow : OpenClaim := { program := "ytpdfgmedbphmkaa", sum := "3c88cdd5de03fd1ec6581f1c848b51569f976ad07db7f7d75bac081fcd3173fa", func := "agora/agoralaw26.ReceiptPlays", spec := "receiptPlays", inPlace := ["internal/bytealg.IndexByteString", "internal/bytealg.IndexString"], unfollowed := true, recurses := true, named := ["internal/bytealg.MaxLen"], apart := false, narrowed := true }
def ReceiptPlaysUptoSaid : Prop := receiptPlaysUptoRow.holds Try.pinned (OpenSpec.upto receiptPlaysSpec)

/-- 'agoralaw26.ReceiptMerges', WHERE WHAT IT READS IS OF BULK AT MOST 1048576: true; the input reads as it did. -/
def receiptMergesUptoRow : OpenClaim := { program := "ytpdfgmedbphmkaa", sum := "3c88cdd5de03fd1ec6581f1c848b51569f976ad07db7f7d75bac081fcd3173fa", func := "agora/agoralaw26.ReceiptMerges", spec := "receiptMerges", inPlace := ["internal/bytealg.IndexByteString", "internal/bytealg.IndexString"], unfollowed := true, recurses := true, named := ["internal/bytealg.MaxLen"], apart := false, narrowed := true }
def ReceiptMergesUptoSaid : Prop := receiptMergesUptoRow.holds Try.pinned (OpenSpec.upto receiptMergesSpec)

end Rows
end Go.Proofs.Ytpdfgmedbphmkaa
