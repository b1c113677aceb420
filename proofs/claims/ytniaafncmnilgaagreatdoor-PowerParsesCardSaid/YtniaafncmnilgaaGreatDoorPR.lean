/-
  The document's May and Same. Contracts.
-/
import Derived.Test.YtniaafncmnilgaaGreatDoorL10A
set_option linter.unusedSimpArgs false
set_option linter.unusedVariables false
set_option maxRecDepth 100000
namespace Go.Proofs.YtniaafncmnilgaaGreatDoor
open Go Go.AL
attribute [local irreducible] AOps AWp SOps AE AT ACall AApp

def i64Cells (n : Int) : List AV := [.v (.int .i64 n)]
theorem rnumbers_c (l : Lv) (H : AHeap) (Kc : AV → AHeap → Prop) (h : Kc (.sl true (l.nums.map i64Cells)) H) : ACall X 22 [.agg l.cells] H Kc := by
  refine ACall.drop ?_
  rw [Lv.cells]
  refine ACall_intro Tryz.func22 rfl (by kernel_rfl) (by rw [Tryz.ntmps22]; simp) ?_; rw [Tryz.ntmps22]; simp only [frame0, Nat.reduceAdd]
  refine AWp_seq_k (fun K hK => ?_); apply s_region
  apply s_box; decide; exact (by simp only [go_sem]; try rfl); exact (by simp only [go_sem]; try rfl); intro q hq
  have g1 := AHeap.get_put_same q (lvbox l) H
  have hE := Ext.fresh hq (o := lvbox l)
  generalize H.put q (lvbox l) = M at g1 hE ⊢
  (repeat' (first | (refine AWp_seq_k (fun K hK => ?_)) | (apply s_region) | (apply s_q; (first | decide | (dsimp only; decide)); rfl; (solve | (simp only [go_sem]; try rfl))) | (apply s_nil; try simp only [AThen, ABlock]; try (first | (refine hK _ _ ?_; clear hK K) | (clear hK K; refine hK _ _ ?_; clear hK K) | (clear hK K; clear hK K; refine hK _ _ ?_; clear hK K))) | (apply AWp_ret; try simp only [AThen, ABlock]; apply end_ret; rfl; try simp only [AFr.get, reduceIte, Nat.reduceEqDiff]) | (apply s_box; (first | decide | (dsimp only; decide)); (solve | (simp only [go_sem]; try rfl)); (solve | (simp only [go_sem]; try rfl)); intro b hb) | (apply s_lit; (first | decide | (dsimp only; decide)); exact el_53; (solve | (simp only [go_sem]; try rfl)); (solve | (simp only [go_sem]; try rfl)); decide)))
  (repeat' (first | (refine AWp_seq_k (fun K hK => ?_)) | (apply s_region) | (apply s_q; (first | decide | (dsimp only; decide)); rfl; (solve | (simp only [go_sem, g1]; try rfl))) | (apply s_nil; try simp only [AThen, ABlock]; try (first | (refine hK _ _ ?_; clear hK K) | (clear hK K; refine hK _ _ ?_; clear hK K) | (clear hK K; clear hK K; refine hK _ _ ?_; clear hK K))) | (apply AWp_ret; try simp only [AThen, ABlock]; apply end_ret; rfl; try simp only [AFr.get, reduceIte, Nat.reduceEqDiff]) | (apply s_box; (first | decide | (dsimp only; decide)); (solve | (simp only [go_sem, g1]; try rfl)); (solve | (simp only [go_sem, g1]; try rfl)); intro b hb) | (apply s_lit; (first | decide | (dsimp only; decide)); exact el_53; (solve | (simp only [go_sem, g1]; try rfl)); (solve | (simp only [go_sem, g1]; try rfl)); decide)))
  refine end_ret (av := .sl true (l.nums.map i64Cells)) (by show resAV X.P _ _ [.tmp 2] = _; simp only [go_sem]; try rfl) ⟨H, hE, h⟩
def rmayE (u v : List Nm) (k : List UInt8) (s : Int) (below : Bool) : Bool :=
  if (if (!if (fndL u k).2 = true then decide (s < (fndL u k).1) else false) = true then !if (fndL v k).2 = true then decide (s < (fndL v k).1) else false else false) = true then
    !if (if below = true then (fndL u k).2 else false) = true then decide (s ≤ (fndL u k).1) else false
  else false
def rmayB (u v : List Nm) (k : List UInt8) (s : Int) (below : Bool) : Bool := if (if decide ((fndL u k).2 = (fndL v k).2) = true then decide ((fndL u k).1 = (fndL v k).1) else false) = true then true else rmayE u v k s below
def rallB (u v : List Nm) (self : List UInt8) (s : Int) (users : Bool) : Bool := !((u ++ v).any fun x => !rmayB u v x.1 s (if users = true then !decide (x.1 = self) else false))
def rnumBad (own x y : Int) : Bool := if (!decide (x = y)) = true then (if decide (own < x) = true then true else decide (own < y)) else false
def lvRMay (a c : Lv) (s : List UInt8) : Bool :=
  if (a.nums.zip c.nums).any (fun p => rnumBad (a.user s) p.1 p.2) = true then false else
  if rallB a.byType c.byType [] (a.user s) false = true then rallB a.byUser c.byUser s (a.user s) true else false
theorem i64_at {l : List Int} {i : Nat} {n : Int} (h : l[i]? = some n) : (l.map i64Cells)[i]? = some [.v (.int .i64 n)] := by rw [List.getElem?_map, h]; rfl
theorem num_same (own x y : Int) : numBad own x y = rnumBad own x y := by
  rw [numBad, rnumBad]
  by_cases e : x = y
  · simp [e]
  · by_cases h1 : own < x <;> by_cases h2 : own < y <;> by_cases h3 : x < y <;> simp [e, h1, h2, h3] <;> omega
theorem may_same1 (u v : List Nm) (k : List UInt8) (s : Int) : (differs u v k && aboveB s u v k) = !rmayB u v k s false := by
  rw [differs, aboveB, rmayB, rmayE]
  generalize (fndL u k).2 = p
  generalize (fndL v k).2 = q
  generalize (fndL u k).1 = x
  generalize (fndL v k).1 = y
  by_cases e : x = y <;> by_cases h1 : s < x <;> by_cases h2 : s < y <;> cases p <;> cases q <;> simp [e, h1, h2]
theorem may_same2 (u v : List Nm) (k self : List UInt8) (s : Int) : (differs u v k && badU s self u v k) = !rmayB u v k s (if true = true then !decide (k = self) else false) := by
  rw [differs, badU, aboveB, rmayB, rmayE]
  generalize (fndL u k).2 = p
  generalize (fndL v k).2 = q
  generalize (fndL u k).1 = x
  generalize (fndL v k).1 = y
  by_cases e : x = y <;> by_cases h1 : s < x <;> by_cases h2 : s < y <;> by_cases h3 : x = s <;> by_cases h4 : k = self <;> by_cases h5 : s ≤ x <;> cases p <;> cases q <;> simp [e, h1, h2, h3, h4, h5] <;> omega
theorem may_law (a c : Lv) (s : List UInt8) : lvMay a c s = lvRMay a c s := by
  have e1 : (a.nums.zip c.nums).any (fun p => numBad (a.user s) p.1 p.2) = (a.nums.zip c.nums).any (fun p => rnumBad (a.user s) p.1 p.2) := by simp only [num_same]
  have e2 : ((a.byType ++ c.byType).any fun x => differs a.byType c.byType x.1 && aboveB (a.user s) a.byType c.byType x.1) = (a.byType ++ c.byType).any (fun x => !rmayB a.byType c.byType x.1 (a.user s) false) := by simp only [may_same1]
  have e3 : ((a.byUser ++ c.byUser).any fun x => differs a.byUser c.byUser x.1 && badU (a.user s) s a.byUser c.byUser x.1) = (a.byUser ++ c.byUser).any (fun x => !rmayB a.byUser c.byUser x.1 (a.user s) (if true = true then !decide (x.1 = s) else false)) := by simp only [may_same2]
  rw [lvMay, lvRMay, rallB, rallB, e1, e2, e3]
  simp only [Bool.false_eq_true, if_false]
  generalize (a.nums.zip c.nums).any (fun p => rnumBad (a.user s) p.1 p.2) = x
  generalize (a.byType ++ c.byType).any (fun x => !rmayB a.byType c.byType x.1 (a.user s) false) = y
  generalize (a.byUser ++ c.byUser).any (fun x => !rmayB a.byUser c.byUser x.1 (a.user s) (if true = true then !decide (x.1 = s) else false)) = z
  cases x <;> cases y <;> cases z <;> rfl
end Go.Proofs.YtniaafncmnilgaaGreatDoor
