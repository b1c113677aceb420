/-
  Names of users, servers, types. Contracts.
-/
import Derived.Test.YtmloandpjbimkaaLib
import Derived.Test.YtmloandpjbimkaaAL4
set_option linter.unusedSimpArgs false
set_option linter.unusedVariables false
set_option maxRecDepth 100000
namespace Go.Proofs.Ytmloandpjbimkaa
open Go Go.AL
attribute [local irreducible] AOps AWp SOps AE AT ACall AApp

def smallB (c : Int) : Bool := (decide (97 ≤ c) && decide (c ≤ 122)) || (decide (48 ≤ c) && decide (c ≤ 57)) || decide (c = 46)
def serverB (c : Int) : Bool := smallB c || decide (c = 45)
def localB (c : Int) : Bool := smallB c || decide (c = 45) || decide (c = 95)

def typeB (c : Int) : Bool := smallB c || decide (c = 95)
def ofB (p : UInt8 → Bool) (n : Int) (l : List UInt8) : Bool := !(decide (l = [])) && decide ((l.length : Int) ≤ n) && l.all p
def isLocal (l : List UInt8) : Bool := ofB (fun c => localB c.toNat) 32 l
def isServer (l : List UInt8) : Bool := ofB (fun c => serverB c.toNat) 32 l
def hasPre (l p : List UInt8) : Bool := decide (p.length ≤ l.length) && decide (l.take p.length = p)
theorem hasPrefix_c (l p : List UInt8) (H : AHeap) (K : AV → AHeap → Prop) (h : K (.v (.bool (hasPre l p))) H) : ACall X 77 [.s l, .s p] H K := by
  refine ACall_intro Try.func77 rfl (by kernel_rfl) (by rw [Try.ntmps77]; simp) ?_; rw [Try.ntmps77]; simp only [frame0, Nat.reduceAdd]
  (repeat' (first | (refine AWp_seq_k (fun K hK => ?_)) | (apply s_region) | (apply s_q; (first | decide | (dsimp only; decide)); rfl; (solve | (simp only [go_sem]; try rfl))) | (apply s_nil; try (simp only [AThen, ABlock]; try (first | (refine hK _ _ ?_; clear hK K) | (clear hK K; refine hK _ _ ?_; clear hK K) | (clear hK K; clear hK K; refine hK _ _ ?_; clear hK K)))) | (apply AWp_ret; try (simp only [AThen, ABlock]; apply end_ret; rfl; try simp only [AFr.get, reduceIte, Nat.reduceEqDiff])) | (apply s_spec; (first | decide | (dsimp only; decide)); rfl; rfl; (solve | (simp only [go_sem]; try rfl)); (solve | (simp only [go_sem]; try rfl)); (solve | (simp only [go_sem]; try rfl)); (solve | (simp only [go_sem]; try rfl)); (solve | trivial | simp only [condsOk] | simp [condsOk] | simp_all [condsOk])) | (apply s_pick; (first | decide | (dsimp only; decide)); (solve | (simp only [go_sem]; try rfl)); (solve | (simp only [go_sem]; try rfl)); (solve | (simp only [go_sem]; try rfl)); (solve | (simp only [go_sem]; try rfl)); (solve | (simp only [go_sem]; try rfl)); (solve | (simp only [go_sem]; try rfl)); (solve | trivial | simp only [condsOk] | simp [condsOk] | simp_all [condsOk]); (solve | trivial | simp only [condsOk] | simp [condsOk] | simp_all [condsOk]); (solve | trivial | simp only [condsOk] | simp [condsOk] | simp_all [condsOk])) | (apply s_when; (first | decide | (dsimp only; decide)); (solve | (simp only [go_sem]; try rfl)); (solve | (simp only [go_sem]; try rfl)); (solve | (simp only [go_sem]; try rfl)); (solve | trivial | simp only [condsOk] | simp [condsOk] | simp_all [condsOk]); (intro hg; simp only [go_sem]; refine Eq.trans (if_pos ?_) rfl; simp at hg; omega))))
  refine finB h ?_
  unfold hasPre
  simp only [List.drop_zero, Int.ofNat_le]
  generalize decide (p.length ≤ l.length) = a1, decide (l.take p.length = p) = a2
  revert a1 a2; decide
theorem cutPrefix0_c (l p : List UInt8) (H : AHeap) (K : AV → AHeap → Prop) (h : K (.tup [.s (if hasPre l p then l.drop p.length else l), .v (.bool (hasPre l p))]) H) : ACall X 61 [.s l, .s p] H K := by
  refine ACall_intro Try.func61 rfl (by kernel_rfl) (by rw [Try.ntmps61]; simp) ?_; rw [Try.ntmps61]; simp only [frame0, Nat.reduceAdd]
  (repeat' (first | (refine AWp_seq_k (fun K hK => ?_)) | (apply s_region) | (apply s_q; (first | decide | (dsimp only; decide)); rfl; (solve | (simp only [go_sem]; try rfl))) | (apply s_nil; try (simp only [AThen, ABlock]; try (first | (refine hK _ _ ?_; clear hK K) | (clear hK K; refine hK _ _ ?_; clear hK K) | (clear hK K; clear hK K; refine hK _ _ ?_; clear hK K)))) | (apply AWp_skip; try (simp only [AThen, ABlock]; try (first | (refine hK _ _ ?_; clear hK K) | (clear hK K; refine hK _ _ ?_; clear hK K) | (clear hK K; clear hK K; refine hK _ _ ?_; clear hK K)))) | (apply AWp_ret; try (simp only [AThen, ABlock]; apply end_ret; rfl; try simp only [AFr.get, reduceIte, Nat.reduceEqDiff])) | (apply s_call; (first | decide | (dsimp only; decide)); (solve | (simp only [go_sem]; try rfl)); (solve | (simp only [go_sem]; try rfl)); apply hasPrefix_c)))
  refine cond_split (by simp only [go_sem]; try rfl) (fun hc => ?_) (fun hc => ?_)
  · (repeat' (first | (refine AWp_seq_k (fun K hK => ?_)) | (apply s_region) | (apply s_q; (first | decide | (dsimp only; decide)); rfl; (solve | (simp only [go_sem]; try rfl))) | (apply s_nil; try (simp only [AThen, ABlock]; try (first | (refine hK _ _ ?_; clear hK K) | (clear hK K; refine hK _ _ ?_; clear hK K) | (clear hK K; clear hK K; refine hK _ _ ?_; clear hK K)))) | (apply AWp_skip; try (simp only [AThen, ABlock]; try (first | (refine hK _ _ ?_; clear hK K) | (clear hK K; refine hK _ _ ?_; clear hK K) | (clear hK K; clear hK K; refine hK _ _ ?_; clear hK K)))) | (apply AWp_ret; try (simp only [AThen, ABlock]; apply end_ret; rfl; try simp only [AFr.get, reduceIte, Nat.reduceEqDiff]))))
    refine fin h ?_
    simp at hc; simp [hc]
  · have hp : hasPre l p = true := by simpa using hc
    have hle : p.length ≤ l.length := by simp [hasPre] at hp; exact hp.1
    (repeat' (first | (refine AWp_seq_k (fun K hK => ?_)) | (apply s_region) | (apply s_q; (first | decide | (dsimp only; decide)); rfl; (solve | (simp only [go_sem]; try rfl))) | (apply s_nil; try (simp only [AThen, ABlock]; try (first | (refine hK _ _ ?_; clear hK K) | (clear hK K; refine hK _ _ ?_; clear hK K) | (clear hK K; clear hK K; refine hK _ _ ?_; clear hK K)))) | (apply AWp_skip; try (simp only [AThen, ABlock]; try (first | (refine hK _ _ ?_; clear hK K) | (clear hK K; refine hK _ _ ?_; clear hK K) | (clear hK K; clear hK K; refine hK _ _ ?_; clear hK K)))) | (apply AWp_ret; try (simp only [AThen, ABlock]; apply end_ret; rfl; try simp only [AFr.get, reduceIte, Nat.reduceEqDiff])) | ((apply s_q; decide; rfl; (simp only [go_sem]; rw [if_pos ⟨by omega, Nat.le_refl _⟩])))))
    refine fin h ?_
    simp only [AFr.get, reduceIte, Nat.reduceEqDiff, if_pos hp, hp, List.take_length]
theorem cutPrefix_c (l p : List UInt8) (H : AHeap) (K : AV → AHeap → Prop) (h : K (.tup [.s (if hasPre l p then l.drop p.length else l), .v (.bool (hasPre l p))]) H) : ACall X 47 [.s l, .s p] H K := by
  refine ACall_intro Try.func47 rfl (by kernel_rfl) (by rw [Try.ntmps47]; simp) ?_; rw [Try.ntmps47]; simp only [frame0, Nat.reduceAdd]
  (repeat' (first | (refine AWp_seq_k (fun K hK => ?_)) | (apply s_region) | (apply s_q; (first | decide | (dsimp only; decide)); rfl; (solve | (simp only [go_sem]; try rfl))) | (apply s_nil; try (simp only [AThen, ABlock]; try (first | (refine hK _ _ ?_; clear hK K) | (clear hK K; refine hK _ _ ?_; clear hK K) | (clear hK K; clear hK K; refine hK _ _ ?_; clear hK K)))) | (apply AWp_ret; try (simp only [AThen, ABlock]; apply end_ret; rfl; try simp only [AFr.get, reduceIte, Nat.reduceEqDiff])) | (apply s_call; (first | decide | (dsimp only; decide)); (solve | (simp only [go_sem]; try rfl)); (solve | (simp only [go_sem]; try rfl)); apply cutPrefix0_c)))
  exact h
def isType (l : List UInt8) : Bool := ofB (fun c => typeB c.toNat) 64 l
/-- 'ident.cut' and 'ident.User' -/
def idCut (sign l : List UInt8) : Option (List UInt8 × List UInt8) :=
  let rest := if hasPre l sign then l.drop sign.length else l
  let c := Lib.cut rest [58]
  if hasPre l sign && c.2.2 && isLocal c.1 && isServer c.2.1 then some (c.1, c.2.1) else none
def idParts (sign l : List UInt8) : AV := match idCut sign l with | some (a, b) => .tup [.s a, .s b, .v (.bool true)] | none => .tup [.s [], .s [], .v (.bool false)]
def userOf (l : List UInt8) : Option (List UInt8 × List UInt8) := idCut [64] l
end Go.Proofs.Ytmloandpjbimkaa
