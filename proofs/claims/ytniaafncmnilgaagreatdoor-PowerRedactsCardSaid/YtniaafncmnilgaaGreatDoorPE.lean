/-
  Power: May. Contracts.
-/
import Derived.Test.YtniaafncmnilgaaGreatDoorPD
import Derived.Test.YtniaafncmnilgaaGreatDoorAL4
set_option linter.unusedSimpArgs false
set_option linter.unusedVariables false
set_option maxRecDepth 100000
namespace Go.Proofs.YtniaafncmnilgaaGreatDoor
open Go Go.AL
attribute [local irreducible] AOps AWp SOps AE AT ACall AApp

def aboveB (own : Int) (a b : List Nm) (s : List UInt8) : Bool := if (if (fndL a s).2 = true then decide (own < (fndL a s).1) else false) = true then true else (if (fndL b s).2 = true then decide (own < (fndL b s).1) else false)
abbrev chbox (a b : List Nm) (s : List UInt8) : AObj := .box 79 [.s s, .v (.int .i64 (fndL a s).1), .v (.int .i64 (fndL b s).1), .v (.bool (fndL a s).2), .v (.bool (fndL b s).2)]
set_option maxHeartbeats 1000000 in
theorem above_c (q : Nat) (own : Int) (a b : List Nm) (s : List UInt8) (H : AHeap) (hq : H.get q = some (.box 2 [.v (.int .i64 own)])) (Kc : AV → AHeap → Prop) (h : Kc (.v (.bool (aboveB own a b s))) H) :
    ACall X 51 [.agg (chCells a b s), ptrTo q] H Kc := by
  rw [chCells]
  refine ACall.drop ?_
  refine ACall_intro Tryz.func51 rfl (by kernel_rfl) (by rw [Tryz.ntmps51]; simp) ?_; rw [Tryz.ntmps51]; simp only [frame0, Nat.reduceAdd]
  refine AWp_seq_k (fun K hK => ?_); apply s_region
  apply s_box; decide; exact (by simp only [go_sem]; try rfl); exact (by simp only [go_sem]; try rfl); intro p hp
  (apply s_q; decide; rfl; (simp only [go_sem]; rfl); apply s_nil; simp only [AThen, ABlock]; refine hK _ _ ?_; clear hK K; refine AWp_seq_k (fun K hK => ?_); apply s_region; (iterate 3 (apply s_q; decide; rfl; (simp only [go_sem]; rfl))); apply s_spec; decide; rfl; rfl; (simp only [go_sem]; rfl); (simp only [go_sem]; rfl); (simp only [go_sem]; rfl); (simp only [go_sem]; rfl); trivial; apply s_spec; decide; rfl; rfl; (simp only [go_sem]; rfl); (simp only [go_sem]; rfl); (simp only [go_sem]; rfl); (simp only [go_sem]; rfl); simp [condsOk])
  have g1 := get_fresh hq hp (x := chbox a b s)
  have g2 := AHeap.get_put_same p (chbox a b s) H
  have hE := Ext.fresh hp (o := chbox a b s)
  generalize H.put p (chbox a b s) = M at g1 g2 hE ⊢
  (apply s_spec; decide; rfl; rfl; (simp only [go_sem, g1, g2]; rfl); (simp only [go_sem, g1, g2]; rfl); (simp only [go_sem, g1, g2]; rfl); (simp only [go_sem, g1, g2]; rfl); trivial; apply s_spec; decide; rfl; rfl; (simp only [go_sem, g1, g2]; rfl); (simp only [go_sem, g1, g2]; rfl); (simp only [go_sem, g1, g2]; rfl); (simp only [go_sem, g1, g2]; rfl); simp [condsOk]; apply s_pick; decide; (simp only [go_sem, g1, g2]; rfl); (simp only [go_sem, g1, g2]; rfl); (simp only [go_sem, g1, g2]; rfl); (simp only [go_sem, g1, g2]; rfl); (simp only [go_sem, g1, g2]; rfl); (simp only [go_sem, g1, g2]; rfl); trivial; simp [condsOk]; trivial; apply s_q; decide; rfl; (simp only [go_sem, g1, g2]; rfl); apply s_spec; decide; rfl; rfl; (simp only [go_sem, g1, g2]; rfl); (simp only [go_sem, g1, g2]; rfl); (simp only [go_sem, g1, g2]; rfl); (simp only [go_sem, g1, g2]; rfl); trivial; (iterate 2 (apply s_spec; decide; rfl; rfl; (simp only [go_sem, g1, g2]; rfl); (simp only [go_sem, g1, g2]; rfl); (simp only [go_sem, g1, g2]; rfl); (simp only [go_sem, g1, g2]; rfl); simp [condsOk])); apply s_spec; decide; rfl; rfl; (simp only [go_sem, g1, g2]; rfl); (simp only [go_sem, g1, g2]; rfl); (simp only [go_sem, g1, g2]; rfl); (simp only [go_sem, g1, g2]; rfl); trivial; apply s_spec; decide; rfl; rfl; (simp only [go_sem, g1, g2]; rfl); (simp only [go_sem, g1, g2]; rfl); (simp only [go_sem, g1, g2]; rfl); (simp only [go_sem, g1, g2]; rfl); simp [condsOk]; apply s_spec; decide; rfl; rfl; (simp only [go_sem, g1, g2]; rfl); (simp only [go_sem, g1, g2]; rfl); (simp only [go_sem, g1, g2]; rfl); (simp only [go_sem, g1, g2]; rfl); trivial; apply s_spec; decide; rfl; rfl; (simp only [go_sem, g1, g2]; rfl); (simp only [go_sem, g1, g2]; rfl); (simp only [go_sem, g1, g2]; rfl); (simp only [go_sem, g1, g2]; rfl); simp [condsOk]; apply s_pickg; decide; (simp only [go_sem, g1, g2]; rfl); (simp only [go_sem, g1, g2]; rfl); (simp only [go_sem, g1, g2]; rfl); (simp only [go_sem, g1, g2]; rfl); (simp only [go_sem, g1, g2]; rfl); (simp only [go_sem, g1, g2]; rfl); (simp only [go_sem, g1, g2]; rfl); (simp only [go_sem, g1, g2]; rfl); simp [condsOk]; simp [condsOk]; trivial; apply s_pick; decide; (simp only [go_sem, g1, g2]; rfl); (simp only [go_sem, g1, g2]; rfl); (simp only [go_sem, g1, g2]; rfl); (simp only [go_sem, g1, g2]; rfl); (simp only [go_sem, g1, g2]; rfl); (simp only [go_sem, g1, g2]; rfl); trivial; trivial; simp [condsOk]; apply s_q; decide; rfl; (simp only [go_sem, g1, g2]; rfl); apply s_nil; simp only [AThen, ABlock]; refine hK _ _ ?_; clear hK K; apply AWp_ret)
  refine end_ret (av := .v (.bool (aboveB own a b s))) (by show resAV X.P _ _ [.tmp 3] = _; simp only [go_sem, aboveB]; try rfl) ⟨H, hE, h⟩

def numBad (own x y : Int) : Bool := if (!decide (x = y)) = true then decide (own < if x < y then y else x) else false
def badU (own : Int) (sender : List UInt8) (u v : List Nm) (s : List UInt8) : Bool := if aboveB own u v s = true then true else if (if (fndL u s).2 = true then decide ((fndL u s).1 = own) else false) = true then !decide (s = sender) else false
def lvMay (a c : Lv) (s : List UInt8) : Bool :=
  !((a.nums.zip c.nums).any fun p => numBad (a.user s) p.1 p.2) && !((a.byType ++ c.byType).any fun x => differs a.byType c.byType x.1 && aboveB (a.user s) a.byType c.byType x.1) &&
    !((a.byUser ++ c.byUser).any fun x => differs a.byUser c.byUser x.1 && badU (a.user s) s a.byUser c.byUser x.1)
theorem any_take {α : Type} {p : α → Bool} {l : List α} {n : Nat} {x : α} (h : (l.take n).any p = false) (hx : l[n]? = some x) (hp : p x = false) : (l.take (n + 1)).any p = false := by
  rw [List.take_add_one, hx, List.any_append, h]; simp [hp]
theorem any_at {α : Type} {p : α → Bool} {l : List α} {n : Nat} {x : α} (hx : l[n]? = some x) (hp : p x = true) : l.any p = true := List.any_eq_true.2 ⟨x, List.mem_of_getElem? hx, hp⟩

theorem ext_del {H L : AHeap} {b : Nat} (h : Ext H L) (hb : H.get b = none) : Ext H (L.del b) := fun d o hd => by
  rw [AHeap.get_del, if_neg (by rintro rfl; rw [hb] at hd; cases hd)]; exact h d o hd
structure MayF (H : AHeap) (p3 p4 p5 p6 p7 p11 : Nat) (a c : Lv) (s : List UInt8) (own : Int) (L : AHeap) : Prop where
  g3 : L.get p3 = some (lvbox a)
  g4 : L.get p4 = some (lvbox c)
  g5 : L.get p5 = some (.box 9 [.s s])
  g6 : L.get p6 = some (.box 4 [.v (.bool false)])
  g7 : L.get p7 = some (.box 2 [.v (.int .i64 own)])
  g11 : L.get p11 = some (.box 80 [.fn (.func 51) [] [ptrTo p7]])
  E : Ext H L
section
variable {H L : AHeap} {p3 p4 p5 p6 p7 p11 : Nat} {a c : Lv} {s : List UInt8} {own : Int} {b : Nat} {o : AObj}
theorem MayF.put (h : MayF H p3 p4 p5 p6 p7 p11 a c s own L) (hb : L.get b = none) : MayF H p3 p4 p5 p6 p7 p11 a c s own (L.put b o) :=
  ⟨get_fresh h.g3 hb, get_fresh h.g4 hb, get_fresh h.g5 hb, get_fresh h.g6 hb, get_fresh h.g7 hb, get_fresh h.g11 hb, h.E.put hb⟩
theorem MayF.ne (h : MayF H p3 p4 p5 p6 p7 p11 a c s own L) (hb : L.get b = none) : (p3 ≠ b ∧ p4 ≠ b ∧ p5 ≠ b ∧ p6 ≠ b ∧ p7 ≠ b ∧ p11 ≠ b) ∧ H.get b = none :=
  ⟨⟨get_ne_fresh h.g3 hb, get_ne_fresh h.g4 hb, get_ne_fresh h.g5 hb, get_ne_fresh h.g6 hb, get_ne_fresh h.g7 hb, get_ne_fresh h.g11 hb⟩, none_of_ext h.E hb⟩
theorem MayF.over (h : MayF H p3 p4 p5 p6 p7 p11 a c s own L) (hn : (p3 ≠ b ∧ p4 ≠ b ∧ p5 ≠ b ∧ p6 ≠ b ∧ p7 ≠ b ∧ p11 ≠ b) ∧ H.get b = none) : MayF H p3 p4 p5 p6 p7 p11 a c s own (L.put b o) :=
  ⟨get_other h.g3 hn.1.1, get_other h.g4 hn.1.2.1, get_other h.g5 hn.1.2.2.1, get_other h.g6 hn.1.2.2.2.1, get_other h.g7 hn.1.2.2.2.2.1, get_other h.g11 hn.1.2.2.2.2.2, h.E.over hn.2⟩
theorem MayF.del (h : MayF H p3 p4 p5 p6 p7 p11 a c s own L) (hn : (p3 ≠ b ∧ p4 ≠ b ∧ p5 ≠ b ∧ p6 ≠ b ∧ p7 ≠ b ∧ p11 ≠ b) ∧ H.get b = none) : MayF H p3 p4 p5 p6 p7 p11 a c s own (L.del b) := by
  obtain ⟨⟨n3, n4, n5, n6, n7, n11⟩, nH⟩ := hn
  refine ⟨by rw [AHeap.get_del, if_neg n3]; exact h.g3, by rw [AHeap.get_del, if_neg n4]; exact h.g4, by rw [AHeap.get_del, if_neg n5]; exact h.g5, by rw [AHeap.get_del, if_neg n6]; exact h.g6, by rw [AHeap.get_del, if_neg n7]; exact h.g7, by rw [AHeap.get_del, if_neg n11]; exact h.g11, fun d o hd => ?_⟩
  rw [AHeap.get_del, if_neg (by rintro rfl; rw [nH] at hd; cases hd)]; exact h.E d o hd
end
theorem nums_at (l : Lv) {i : Nat} (hi : i < 7) : ∃ n, l.nums[i]? = some n := gete hi

set_option maxHeartbeats 4000000 in
theorem may_c (a c : Lv) (ha : a.Len) (hc : c.Len) (s : List UInt8) (H : AHeap) (Kc : AV → AHeap → Prop) (h : Kc (.v (.bool (lvMay a c s))) H) : ACall X 26 [.agg a.cells, .agg c.cells, .s s] H Kc := by
  refine ACall.drop ?_
  rw [Lv.cells, Lv.cells]
  refine ACall_intro Tryz.func26 rfl (by kernel_rfl) (by rw [Tryz.ntmps26]; simp) ?_; rw [Tryz.ntmps26]; simp only [frame0, Nat.reduceAdd]
  refine AWp_seq_k (fun K hK => ?_); apply s_region
  apply s_box; decide; exact (by simp only [go_sem]; try rfl); exact (by simp only [go_sem]; try rfl); intro p3 hp3
  apply s_box; decide; exact (by simp only [go_sem]; try rfl); exact (by simp only [go_sem]; try rfl); intro p4 hp4
  apply s_box; decide; exact (by simp only [go_sem]; try rfl); exact (by simp only [go_sem]; try rfl); intro p5 hp5
  apply s_alloc; decide; exact zc_4; intro p6 hp6
  apply s_nil; simp only [AThen, ABlock]; refine hK _ _ ?_; clear hK K
  have e1 := AHeap.get_put_same p3 (lvbox a) H
  have e2 := get_fresh e1 hp4 (x := lvbox c)
  have e3 := get_fresh e2 hp5 (x := .box 9 [.s s])
  have e4 := get_fresh e3 hp6 (x := .box 4 [.v (.bool false)])
  have f1 := AHeap.get_put_same p4 (lvbox c) (H.put p3 (lvbox a))
  have f2 := get_fresh f1 hp5 (x := .box 9 [.s s])
  have f3 := get_fresh f2 hp6 (x := .box 4 [.v (.bool false)])
  have g1 := AHeap.get_put_same p5 (.box 9 [.s s]) ((H.put p3 (lvbox a)).put p4 (lvbox c))
  have g2 := get_fresh g1 hp6 (x := .box 4 [.v (.bool false)])
  have k1 := AHeap.get_put_same p6 (.box 4 [.v (.bool false)]) (((H.put p3 (lvbox a)).put p4 (lvbox c)).put p5 (.box 9 [.s s]))
  have E0 := (((Ext.fresh hp3 (o := lvbox a)).put hp4 (ob := lvbox c)).put hp5 (ob := .box 9 [.s s]))
  have hHp6 : H.get p6 = none := none_of_ext E0 hp6
  have E1 := E0.put hp6 (ob := .box 4 [.v (.bool false)])
  generalize (((H.put p3 (lvbox a)).put p4 (lvbox c)).put p5 (.box 9 [.s s])).put p6 (.box 4 [.v (.bool false)]) = M at e4 f3 g2 k1 E1 ⊢
  clear e1 e2 e3 f1 f2 g1 E0
  (refine AWp_seq_k (fun K hK => ?_); apply s_region; (iterate 2 (apply s_q; decide; rfl; (simp only [go_sem, e4, f3, g2, k1]; rfl))); apply s_call; decide; (simp only [go_sem, e4, f3, g2, k1]; rfl); (simp only [go_sem, e4, f3, g2, k1]; rfl); refine ACall.args_eq (bs := [.agg a.cells, .s s]) (by rw [Lv.cells]) ?_; apply puser_c a ha s; apply s_alloc; decide; exact zc_2; intro b hb; apply s_store; (simp only [go_sem, e4, f3, g2, k1]; rfl); (simp only [go_sem, e4, f3, g2, k1]; rfl); (simp only [go_sem, e4, f3, g2, k1]; rfl); apply s_nil; simp only [AThen, ABlock]; refine hK _ _ ?_; clear hK K; refine AWp_seq_k (fun K hK => ?_))
  obtain ⟨p7, h7e⟩ : ∃ q, q = b := ⟨_, rfl⟩
  have hp7 := hb
  rw [← h7e] at hp7 ⊢
  clear hb h7e b
  obtain ⟨own, hown⟩ : ∃ own, own = a.user s := ⟨_, rfl⟩
  rw [← hown]
  have q4 := get_fresh e4 hp7 (x := .box 2 [.v (.int .i64 own)])
  have q3 := get_fresh f3 hp7 (x := .box 2 [.v (.int .i64 own)])
  have q2 := get_fresh g2 hp7 (x := .box 2 [.v (.int .i64 own)])
  have q1 := get_fresh k1 hp7 (x := .box 2 [.v (.int .i64 own)])
  have q0 := AHeap.get_put_same p7 (.box 2 [.v (.int .i64 own)]) M
  have E2 := E1.put hp7 (ob := .box 2 [.v (.int .i64 own)])
  generalize M.put p7 (.box 2 [.v (.int .i64 own)]) = M2 at q4 q3 q2 q1 q0 E2 ⊢
  clear e4 f3 g2 k1 E1
  have hcont : ∀ (p8 p9 : Nat) (M3 : AHeap) (fr : AFr), getAll [3, 4, 5, 6, 7, 8, 9] fr = [ptrTo p3, ptrTo p4, ptrTo p5, ptrTo p6, ptrTo p7, ptrTo p8, ptrTo p9] → M3.get p3 = some (lvbox a) → M3.get p4 = some (lvbox c) → M3.get p5 = some (.box 9 [.s s]) → M3.get p6 = some (.box 4 [.v (.bool false)]) →
      M3.get p7 = some (.box 2 [.v (.int .i64 own)]) → M3.get p8 = some (.box 76 (numCells a)) → M3.get p9 = some (.box 76 (numCells c)) → Ext H M3 → K fr M3 := by
    intro p8 p9 M3 fr hfr k3 k4 k5 k6 k7 k8 k9 hE
    refine hK _ _ ?_
    refine AWp_cut [3, 4, 5, 6, 7, 8, 9] hfr ?_
    simp only [List.zip_cons_cons, List.zip_nil_right]
    ((iterate 2 (refine AWp_seq_k (fun K hK => ?_))); apply s_region; apply s_q; decide; rfl; (simp only [go_sem]; rfl); apply s_nil; simp only [AThen, ABlock]; refine hK _ _ ?_; clear hK K; apply AWp_block)
    refine AWp_loop_s (σ := Nat) [3, 4, 5, 6, 7, 8, 9, 21] (fun i => [ptrTo p3, ptrTo p4, ptrTo p5, ptrTo p6, ptrTo p7, ptrTo p8, ptrTo p9, .v (.int .i64 i)]) (fun _ => M3) (fun i => 7 - i) (fun i => i ≤ 7 ∧ ((a.nums.zip c.nums).take i).any (fun p => numBad own p.1 p.2) = false) 0 ⟨by omega, rfl⟩ rfl rfl (fun i hi => ?_)
    obtain ⟨hi, hok⟩ := hi
    simp only [List.zip_cons_cons, List.zip_nil_right]
    rcases (by omega : i = 0 ∨ i = 1 ∨ i = 2 ∨ i = 3 ∨ i = 4 ∨ i = 5 ∨ i = 6 ∨ i = 7) with rfl | rfl | rfl | rfl | rfl | rfl | rfl | rfl
    · (refine AWp_seq_k (fun K hK => ?_); apply s_region; apply s_q; decide; rfl; (simp only [go_sem]; rfl); apply s_nil; simp only [AThen, ABlock]; refine hK _ _ ?_; clear hK K; refine AWp_seq_k (fun K hK => ?_))
      refine cond_split (by simp only [go_sem]; try rfl) (fun hd => ?_) (fun hd => ?_)
      rotate_left
      · simp at hd
      (apply AWp_skip; simp only [AThen, ABlock]; refine hK _ _ ?_; clear hK K; refine AWp_seq_k (fun K hK => ?_); apply AWp_block; refine AWp_seq_k (fun K hK => ?_); apply s_region; (iterate 2 (apply s_q; decide; rfl; (simp only [go_sem]; rfl))); apply s_nil; simp only [AThen, ABlock]; refine hK _ _ ?_; clear hK K; refine AWp_seq_k (fun K hK => ?_))
      apply AWp_drawA [0, 1, 2, 3, 4, 5, 6, 7, 8, 9, 10, 11, 12, 13, 14, 15, 16, 17] [] 0 (by exact mixed); kernel_rfl; (simp only [go_sem]; rfl); (simp only [go_sem]; rfl)
      ((iterate 8 (apply e_q; decide; (simp only [go_sem, k8, k9, k7]; rfl))); apply e_spec; decide; (simp only [go_sem, k8, k9, k7]; rfl); (simp only [go_sem, k8, k9, k7]; rfl); (simp only [go_sem, k8, k9, k7]; rfl); (simp only [go_sem, k8, k9, k7]; rfl); trivial; (iterate 2 (apply e_spec; decide; (simp only [go_sem, k8, k9, k7]; rfl); (simp only [go_sem, k8, k9, k7]; rfl); (simp only [go_sem, k8, k9, k7]; rfl); (simp only [go_sem, k8, k9, k7]; rfl); simp [condsOk])); apply e_spec; decide; (simp only [go_sem, k8, k9, k7]; rfl); (simp only [go_sem, k8, k9, k7]; rfl); (simp only [go_sem, k8, k9, k7]; rfl); (simp only [go_sem, k8, k9, k7]; rfl); trivial; (iterate 3 (apply e_spec; decide; (simp only [go_sem, k8, k9, k7]; rfl); (simp only [go_sem, k8, k9, k7]; rfl); (simp only [go_sem, k8, k9, k7]; rfl); (simp only [go_sem, k8, k9, k7]; rfl); simp [condsOk])); apply e_spec; decide; (simp only [go_sem, k8, k9, k7]; rfl); (simp only [go_sem, k8, k9, k7]; rfl); (simp only [go_sem, k8, k9, k7]; rfl); (simp only [go_sem, k8, k9, k7]; rfl); trivial; apply e_spec; decide; (simp only [go_sem, k8, k9, k7]; rfl); (simp only [go_sem, k8, k9, k7]; rfl); (simp only [go_sem, k8, k9, k7]; rfl); (simp only [go_sem, k8, k9, k7]; rfl); simp [condsOk]; apply e_pick; decide; (simp only [go_sem, k8, k9, k7]; rfl); (simp only [go_sem, k8, k9, k7]; rfl); (simp only [go_sem, k8, k9, k7]; rfl); (simp only [go_sem, k8, k9, k7]; rfl); (simp only [go_sem, k8, k9, k7]; rfl); (simp only [go_sem, k8, k9, k7]; rfl); trivial; simp [condsOk]; trivial; apply e_nil; apply t_nil; simp only [AThen, ABlock]; refine hK _ _ ?_; clear hK K)
      refine cond_split (by simp only [go_sem]; try rfl) (fun hx => ?_) (fun hx => ?_)
      · have hx : numBad own a.ban c.ban = true := hx
        have hm : lvMay a c s = false := by rw [lvMay, any_at (l := a.nums.zip c.nums) (n := 0) (x := (a.ban, c.ban)) rfl (by rw [← hown]; exact hx)]; rfl
        rw [hm] at h
        (refine AWp_seq_k (fun K hK => ?_); apply s_region; apply s_store; (simp only [go_sem, k6]; rfl); (simp only [go_sem, k6]; rfl); (simp only [go_sem, k6]; rfl); apply s_nil; simp only [AThen, ABlock]; refine hK _ _ ?_; clear hK K; apply AWp_ret)
        try simp only [AThen, ABlock]
        refine end_ret (av := .v (.bool false)) (by show resAV X.P _ _ [.cell 6 4] = _; simp only [go_sem]; try rfl) ⟨H, hE.over hHp6, h⟩
      · have hx : numBad own a.ban c.ban = false := hx
        (apply AWp_skip; simp only [AThen, ABlock]; refine hK _ _ ?_; clear hK K; apply s_region; (iterate 2 (apply s_q; decide; rfl; (simp only [go_sem]; rfl))); apply s_nil; simp only [AThen, ABlock])
        refine ⟨1, by omega, ⟨by omega, any_take hok (n := 0) (x := (a.ban, c.ban)) rfl hx⟩, ?_, by trivial⟩
        simp only [getAll, List.map_cons, List.map_nil, AFr.get, reduceIte, Nat.reduceEqDiff]
        try rfl
    · (refine AWp_seq_k (fun K hK => ?_); apply s_region; apply s_q; decide; rfl; (simp only [go_sem]; rfl); apply s_nil; simp only [AThen, ABlock]; refine hK _ _ ?_; clear hK K; refine AWp_seq_k (fun K hK => ?_))
      refine cond_split (by simp only [go_sem]; try rfl) (fun hd => ?_) (fun hd => ?_)
      rotate_left
      · simp at hd
      (apply AWp_skip; simp only [AThen, ABlock]; refine hK _ _ ?_; clear hK K; refine AWp_seq_k (fun K hK => ?_); apply AWp_block; refine AWp_seq_k (fun K hK => ?_); apply s_region; (iterate 2 (apply s_q; decide; rfl; (simp only [go_sem]; rfl))); apply s_nil; simp only [AThen, ABlock]; refine hK _ _ ?_; clear hK K; refine AWp_seq_k (fun K hK => ?_))
      apply AWp_drawA [0, 1, 2, 3, 4, 5, 6, 7, 8, 9, 10, 11, 12, 13, 14, 15, 16, 17] [] 0 (by exact mixed); kernel_rfl; (simp only [go_sem]; rfl); (simp only [go_sem]; rfl)
      ((iterate 8 (apply e_q; decide; (simp only [go_sem, k8, k9, k7]; rfl))); apply e_spec; decide; (simp only [go_sem, k8, k9, k7]; rfl); (simp only [go_sem, k8, k9, k7]; rfl); (simp only [go_sem, k8, k9, k7]; rfl); (simp only [go_sem, k8, k9, k7]; rfl); trivial; (iterate 2 (apply e_spec; decide; (simp only [go_sem, k8, k9, k7]; rfl); (simp only [go_sem, k8, k9, k7]; rfl); (simp only [go_sem, k8, k9, k7]; rfl); (simp only [go_sem, k8, k9, k7]; rfl); simp [condsOk])); apply e_spec; decide; (simp only [go_sem, k8, k9, k7]; rfl); (simp only [go_sem, k8, k9, k7]; rfl); (simp only [go_sem, k8, k9, k7]; rfl); (simp only [go_sem, k8, k9, k7]; rfl); trivial; (iterate 3 (apply e_spec; decide; (simp only [go_sem, k8, k9, k7]; rfl); (simp only [go_sem, k8, k9, k7]; rfl); (simp only [go_sem, k8, k9, k7]; rfl); (simp only [go_sem, k8, k9, k7]; rfl); simp [condsOk])); apply e_spec; decide; (simp only [go_sem, k8, k9, k7]; rfl); (simp only [go_sem, k8, k9, k7]; rfl); (simp only [go_sem, k8, k9, k7]; rfl); (simp only [go_sem, k8, k9, k7]; rfl); trivial; apply e_spec; decide; (simp only [go_sem, k8, k9, k7]; rfl); (simp only [go_sem, k8, k9, k7]; rfl); (simp only [go_sem, k8, k9, k7]; rfl); (simp only [go_sem, k8, k9, k7]; rfl); simp [condsOk]; apply e_pick; decide; (simp only [go_sem, k8, k9, k7]; rfl); (simp only [go_sem, k8, k9, k7]; rfl); (simp only [go_sem, k8, k9, k7]; rfl); (simp only [go_sem, k8, k9, k7]; rfl); (simp only [go_sem, k8, k9, k7]; rfl); (simp only [go_sem, k8, k9, k7]; rfl); trivial; simp [condsOk]; trivial; apply e_nil; apply t_nil; simp only [AThen, ABlock]; refine hK _ _ ?_; clear hK K)
      refine cond_split (by simp only [go_sem]; try rfl) (fun hx => ?_) (fun hx => ?_)
      · have hx : numBad own a.kick c.kick = true := hx
        have hm : lvMay a c s = false := by rw [lvMay, any_at (l := a.nums.zip c.nums) (n := 1) (x := (a.kick, c.kick)) rfl (by rw [← hown]; exact hx)]; rfl
        rw [hm] at h
        (refine AWp_seq_k (fun K hK => ?_); apply s_region; apply s_store; (simp only [go_sem, k6]; rfl); (simp only [go_sem, k6]; rfl); (simp only [go_sem, k6]; rfl); apply s_nil; simp only [AThen, ABlock]; refine hK _ _ ?_; clear hK K; apply AWp_ret)
        try simp only [AThen, ABlock]
        refine end_ret (av := .v (.bool false)) (by show resAV X.P _ _ [.cell 6 4] = _; simp only [go_sem]; try rfl) ⟨H, hE.over hHp6, h⟩
      · have hx : numBad own a.kick c.kick = false := hx
        (apply AWp_skip; simp only [AThen, ABlock]; refine hK _ _ ?_; clear hK K; apply s_region; (iterate 2 (apply s_q; decide; rfl; (simp only [go_sem]; rfl))); apply s_nil; simp only [AThen, ABlock])
        refine ⟨2, by omega, ⟨by omega, any_take hok (n := 1) (x := (a.kick, c.kick)) rfl hx⟩, ?_, by trivial⟩
        simp only [getAll, List.map_cons, List.map_nil, AFr.get, reduceIte, Nat.reduceEqDiff]
        try rfl
    · (refine AWp_seq_k (fun K hK => ?_); apply s_region; apply s_q; decide; rfl; (simp only [go_sem]; rfl); apply s_nil; simp only [AThen, ABlock]; refine hK _ _ ?_; clear hK K; refine AWp_seq_k (fun K hK => ?_))
      refine cond_split (by simp only [go_sem]; try rfl) (fun hd => ?_) (fun hd => ?_)
      rotate_left
      · simp at hd
      (apply AWp_skip; simp only [AThen, ABlock]; refine hK _ _ ?_; clear hK K; refine AWp_seq_k (fun K hK => ?_); apply AWp_block; refine AWp_seq_k (fun K hK => ?_); apply s_region; (iterate 2 (apply s_q; decide; rfl; (simp only [go_sem]; rfl))); apply s_nil; simp only [AThen, ABlock]; refine hK _ _ ?_; clear hK K; refine AWp_seq_k (fun K hK => ?_))
      apply AWp_drawA [0, 1, 2, 3, 4, 5, 6, 7, 8, 9, 10, 11, 12, 13, 14, 15, 16, 17] [] 0 (by exact mixed); kernel_rfl; (simp only [go_sem]; rfl); (simp only [go_sem]; rfl)
      ((iterate 8 (apply e_q; decide; (simp only [go_sem, k8, k9, k7]; rfl))); apply e_spec; decide; (simp only [go_sem, k8, k9, k7]; rfl); (simp only [go_sem, k8, k9, k7]; rfl); (simp only [go_sem, k8, k9, k7]; rfl); (simp only [go_sem, k8, k9, k7]; rfl); trivial; (iterate 2 (apply e_spec; decide; (simp only [go_sem, k8, k9, k7]; rfl); (simp only [go_sem, k8, k9, k7]; rfl); (simp only [go_sem, k8, k9, k7]; rfl); (simp only [go_sem, k8, k9, k7]; rfl); simp [condsOk])); apply e_spec; decide; (simp only [go_sem, k8, k9, k7]; rfl); (simp only [go_sem, k8, k9, k7]; rfl); (simp only [go_sem, k8, k9, k7]; rfl); (simp only [go_sem, k8, k9, k7]; rfl); trivial; (iterate 3 (apply e_spec; decide; (simp only [go_sem, k8, k9, k7]; rfl); (simp only [go_sem, k8, k9, k7]; rfl); (simp only [go_sem, k8, k9, k7]; rfl); (simp only [go_sem, k8, k9, k7]; rfl); simp [condsOk])); apply e_spec; decide; (simp only [go_sem, k8, k9, k7]; rfl); (simp only [go_sem, k8, k9, k7]; rfl); (simp only [go_sem, k8, k9, k7]; rfl); (simp only [go_sem, k8, k9, k7]; rfl); trivial; apply e_spec; decide; (simp only [go_sem, k8, k9, k7]; rfl); (simp only [go_sem, k8, k9, k7]; rfl); (simp only [go_sem, k8, k9, k7]; rfl); (simp only [go_sem, k8, k9, k7]; rfl); simp [condsOk]; apply e_pick; decide; (simp only [go_sem, k8, k9, k7]; rfl); (simp only [go_sem, k8, k9, k7]; rfl); (simp only [go_sem, k8, k9, k7]; rfl); (simp only [go_sem, k8, k9, k7]; rfl); (simp only [go_sem, k8, k9, k7]; rfl); (simp only [go_sem, k8, k9, k7]; rfl); trivial; simp [condsOk]; trivial; apply e_nil; apply t_nil; simp only [AThen, ABlock]; refine hK _ _ ?_; clear hK K)
      refine cond_split (by simp only [go_sem]; try rfl) (fun hx => ?_) (fun hx => ?_)
      · have hx : numBad own a.invite c.invite = true := hx
        have hm : lvMay a c s = false := by rw [lvMay, any_at (l := a.nums.zip c.nums) (n := 2) (x := (a.invite, c.invite)) rfl (by rw [← hown]; exact hx)]; rfl
        rw [hm] at h
        (refine AWp_seq_k (fun K hK => ?_); apply s_region; apply s_store; (simp only [go_sem, k6]; rfl); (simp only [go_sem, k6]; rfl); (simp only [go_sem, k6]; rfl); apply s_nil; simp only [AThen, ABlock]; refine hK _ _ ?_; clear hK K; apply AWp_ret)
        try simp only [AThen, ABlock]
        refine end_ret (av := .v (.bool false)) (by show resAV X.P _ _ [.cell 6 4] = _; simp only [go_sem]; try rfl) ⟨H, hE.over hHp6, h⟩
      · have hx : numBad own a.invite c.invite = false := hx
        (apply AWp_skip; simp only [AThen, ABlock]; refine hK _ _ ?_; clear hK K; apply s_region; (iterate 2 (apply s_q; decide; rfl; (simp only [go_sem]; rfl))); apply s_nil; simp only [AThen, ABlock])
        refine ⟨3, by omega, ⟨by omega, any_take hok (n := 2) (x := (a.invite, c.invite)) rfl hx⟩, ?_, by trivial⟩
        simp only [getAll, List.map_cons, List.map_nil, AFr.get, reduceIte, Nat.reduceEqDiff]
        try rfl
    · (refine AWp_seq_k (fun K hK => ?_); apply s_region; apply s_q; decide; rfl; (simp only [go_sem]; rfl); apply s_nil; simp only [AThen, ABlock]; refine hK _ _ ?_; clear hK K; refine AWp_seq_k (fun K hK => ?_))
      refine cond_split (by simp only [go_sem]; try rfl) (fun hd => ?_) (fun hd => ?_)
      rotate_left
      · simp at hd
      (apply AWp_skip; simp only [AThen, ABlock]; refine hK _ _ ?_; clear hK K; refine AWp_seq_k (fun K hK => ?_); apply AWp_block; refine AWp_seq_k (fun K hK => ?_); apply s_region; (iterate 2 (apply s_q; decide; rfl; (simp only [go_sem]; rfl))); apply s_nil; simp only [AThen, ABlock]; refine hK _ _ ?_; clear hK K; refine AWp_seq_k (fun K hK => ?_))
      apply AWp_drawA [0, 1, 2, 3, 4, 5, 6, 7, 8, 9, 10, 11, 12, 13, 14, 15, 16, 17] [] 0 (by exact mixed); kernel_rfl; (simp only [go_sem]; rfl); (simp only [go_sem]; rfl)
      ((iterate 8 (apply e_q; decide; (simp only [go_sem, k8, k9, k7]; rfl))); apply e_spec; decide; (simp only [go_sem, k8, k9, k7]; rfl); (simp only [go_sem, k8, k9, k7]; rfl); (simp only [go_sem, k8, k9, k7]; rfl); (simp only [go_sem, k8, k9, k7]; rfl); trivial; (iterate 2 (apply e_spec; decide; (simp only [go_sem, k8, k9, k7]; rfl); (simp only [go_sem, k8, k9, k7]; rfl); (simp only [go_sem, k8, k9, k7]; rfl); (simp only [go_sem, k8, k9, k7]; rfl); simp [condsOk])); apply e_spec; decide; (simp only [go_sem, k8, k9, k7]; rfl); (simp only [go_sem, k8, k9, k7]; rfl); (simp only [go_sem, k8, k9, k7]; rfl); (simp only [go_sem, k8, k9, k7]; rfl); trivial; (iterate 3 (apply e_spec; decide; (simp only [go_sem, k8, k9, k7]; rfl); (simp only [go_sem, k8, k9, k7]; rfl); (simp only [go_sem, k8, k9, k7]; rfl); (simp only [go_sem, k8, k9, k7]; rfl); simp [condsOk])); apply e_spec; decide; (simp only [go_sem, k8, k9, k7]; rfl); (simp only [go_sem, k8, k9, k7]; rfl); (simp only [go_sem, k8, k9, k7]; rfl); (simp only [go_sem, k8, k9, k7]; rfl); trivial; apply e_spec; decide; (simp only [go_sem, k8, k9, k7]; rfl); (simp only [go_sem, k8, k9, k7]; rfl); (simp only [go_sem, k8, k9, k7]; rfl); (simp only [go_sem, k8, k9, k7]; rfl); simp [condsOk]; apply e_pick; decide; (simp only [go_sem, k8, k9, k7]; rfl); (simp only [go_sem, k8, k9, k7]; rfl); (simp only [go_sem, k8, k9, k7]; rfl); (simp only [go_sem, k8, k9, k7]; rfl); (simp only [go_sem, k8, k9, k7]; rfl); (simp only [go_sem, k8, k9, k7]; rfl); trivial; simp [condsOk]; trivial; apply e_nil; apply t_nil; simp only [AThen, ABlock]; refine hK _ _ ?_; clear hK K)
      refine cond_split (by simp only [go_sem]; try rfl) (fun hx => ?_) (fun hx => ?_)
      · have hx : numBad own a.redact c.redact = true := hx
        have hm : lvMay a c s = false := by rw [lvMay, any_at (l := a.nums.zip c.nums) (n := 3) (x := (a.redact, c.redact)) rfl (by rw [← hown]; exact hx)]; rfl
        rw [hm] at h
        (refine AWp_seq_k (fun K hK => ?_); apply s_region; apply s_store; (simp only [go_sem, k6]; rfl); (simp only [go_sem, k6]; rfl); (simp only [go_sem, k6]; rfl); apply s_nil; simp only [AThen, ABlock]; refine hK _ _ ?_; clear hK K; apply AWp_ret)
        try simp only [AThen, ABlock]
        refine end_ret (av := .v (.bool false)) (by show resAV X.P _ _ [.cell 6 4] = _; simp only [go_sem]; try rfl) ⟨H, hE.over hHp6, h⟩
      · have hx : numBad own a.redact c.redact = false := hx
        (apply AWp_skip; simp only [AThen, ABlock]; refine hK _ _ ?_; clear hK K; apply s_region; (iterate 2 (apply s_q; decide; rfl; (simp only [go_sem]; rfl))); apply s_nil; simp only [AThen, ABlock])
        refine ⟨4, by omega, ⟨by omega, any_take hok (n := 3) (x := (a.redact, c.redact)) rfl hx⟩, ?_, by trivial⟩
        simp only [getAll, List.map_cons, List.map_nil, AFr.get, reduceIte, Nat.reduceEqDiff]
        try rfl
    · (refine AWp_seq_k (fun K hK => ?_); apply s_region; apply s_q; decide; rfl; (simp only [go_sem]; rfl); apply s_nil; simp only [AThen, ABlock]; refine hK _ _ ?_; clear hK K; refine AWp_seq_k (fun K hK => ?_))
      refine cond_split (by simp only [go_sem]; try rfl) (fun hd => ?_) (fun hd => ?_)
      rotate_left
      · simp at hd
      (apply AWp_skip; simp only [AThen, ABlock]; refine hK _ _ ?_; clear hK K; refine AWp_seq_k (fun K hK => ?_); apply AWp_block; refine AWp_seq_k (fun K hK => ?_); apply s_region; (iterate 2 (apply s_q; decide; rfl; (simp only [go_sem]; rfl))); apply s_nil; simp only [AThen, ABlock]; refine hK _ _ ?_; clear hK K; refine AWp_seq_k (fun K hK => ?_))
      apply AWp_drawA [0, 1, 2, 3, 4, 5, 6, 7, 8, 9, 10, 11, 12, 13, 14, 15, 16, 17] [] 0 (by exact mixed); kernel_rfl; (simp only [go_sem]; rfl); (simp only [go_sem]; rfl)
      ((iterate 8 (apply e_q; decide; (simp only [go_sem, k8, k9, k7]; rfl))); apply e_spec; decide; (simp only [go_sem, k8, k9, k7]; rfl); (simp only [go_sem, k8, k9, k7]; rfl); (simp only [go_sem, k8, k9, k7]; rfl); (simp only [go_sem, k8, k9, k7]; rfl); trivial; (iterate 2 (apply e_spec; decide; (simp only [go_sem, k8, k9, k7]; rfl); (simp only [go_sem, k8, k9, k7]; rfl); (simp only [go_sem, k8, k9, k7]; rfl); (simp only [go_sem, k8, k9, k7]; rfl); simp [condsOk])); apply e_spec; decide; (simp only [go_sem, k8, k9, k7]; rfl); (simp only [go_sem, k8, k9, k7]; rfl); (simp only [go_sem, k8, k9, k7]; rfl); (simp only [go_sem, k8, k9, k7]; rfl); trivial; (iterate 3 (apply e_spec; decide; (simp only [go_sem, k8, k9, k7]; rfl); (simp only [go_sem, k8, k9, k7]; rfl); (simp only [go_sem, k8, k9, k7]; rfl); (simp only [go_sem, k8, k9, k7]; rfl); simp [condsOk])); apply e_spec; decide; (simp only [go_sem, k8, k9, k7]; rfl); (simp only [go_sem, k8, k9, k7]; rfl); (simp only [go_sem, k8, k9, k7]; rfl); (simp only [go_sem, k8, k9, k7]; rfl); trivial; apply e_spec; decide; (simp only [go_sem, k8, k9, k7]; rfl); (simp only [go_sem, k8, k9, k7]; rfl); (simp only [go_sem, k8, k9, k7]; rfl); (simp only [go_sem, k8, k9, k7]; rfl); simp [condsOk]; apply e_pick; decide; (simp only [go_sem, k8, k9, k7]; rfl); (simp only [go_sem, k8, k9, k7]; rfl); (simp only [go_sem, k8, k9, k7]; rfl); (simp only [go_sem, k8, k9, k7]; rfl); (simp only [go_sem, k8, k9, k7]; rfl); (simp only [go_sem, k8, k9, k7]; rfl); trivial; simp [condsOk]; trivial; apply e_nil; apply t_nil; simp only [AThen, ABlock]; refine hK _ _ ?_; clear hK K)
      refine cond_split (by simp only [go_sem]; try rfl) (fun hx => ?_) (fun hx => ?_)
      · have hx : numBad own a.state c.state = true := hx
        have hm : lvMay a c s = false := by rw [lvMay, any_at (l := a.nums.zip c.nums) (n := 4) (x := (a.state, c.state)) rfl (by rw [← hown]; exact hx)]; rfl
        rw [hm] at h
        (refine AWp_seq_k (fun K hK => ?_); apply s_region; apply s_store; (simp only [go_sem, k6]; rfl); (simp only [go_sem, k6]; rfl); (simp only [go_sem, k6]; rfl); apply s_nil; simp only [AThen, ABlock]; refine hK _ _ ?_; clear hK K; apply AWp_ret)
        try simp only [AThen, ABlock]
        refine end_ret (av := .v (.bool false)) (by show resAV X.P _ _ [.cell 6 4] = _; simp only [go_sem]; try rfl) ⟨H, hE.over hHp6, h⟩
      · have hx : numBad own a.state c.state = false := hx
        (apply AWp_skip; simp only [AThen, ABlock]; refine hK _ _ ?_; clear hK K; apply s_region; (iterate 2 (apply s_q; decide; rfl; (simp only [go_sem]; rfl))); apply s_nil; simp only [AThen, ABlock])
        refine ⟨5, by omega, ⟨by omega, any_take hok (n := 4) (x := (a.state, c.state)) rfl hx⟩, ?_, by trivial⟩
        simp only [getAll, List.map_cons, List.map_nil, AFr.get, reduceIte, Nat.reduceEqDiff]
        try rfl
    · (refine AWp_seq_k (fun K hK => ?_); apply s_region; apply s_q; decide; rfl; (simp only [go_sem]; rfl); apply s_nil; simp only [AThen, ABlock]; refine hK _ _ ?_; clear hK K; refine AWp_seq_k (fun K hK => ?_))
      refine cond_split (by simp only [go_sem]; try rfl) (fun hd => ?_) (fun hd => ?_)
      rotate_left
      · simp at hd
      (apply AWp_skip; simp only [AThen, ABlock]; refine hK _ _ ?_; clear hK K; refine AWp_seq_k (fun K hK => ?_); apply AWp_block; refine AWp_seq_k (fun K hK => ?_); apply s_region; (iterate 2 (apply s_q; decide; rfl; (simp only [go_sem]; rfl))); apply s_nil; simp only [AThen, ABlock]; refine hK _ _ ?_; clear hK K; refine AWp_seq_k (fun K hK => ?_))
      apply AWp_drawA [0, 1, 2, 3, 4, 5, 6, 7, 8, 9, 10, 11, 12, 13, 14, 15, 16, 17] [] 0 (by exact mixed); kernel_rfl; (simp only [go_sem]; rfl); (simp only [go_sem]; rfl)
      ((iterate 8 (apply e_q; decide; (simp only [go_sem, k8, k9, k7]; rfl))); apply e_spec; decide; (simp only [go_sem, k8, k9, k7]; rfl); (simp only [go_sem, k8, k9, k7]; rfl); (simp only [go_sem, k8, k9, k7]; rfl); (simp only [go_sem, k8, k9, k7]; rfl); trivial; (iterate 2 (apply e_spec; decide; (simp only [go_sem, k8, k9, k7]; rfl); (simp only [go_sem, k8, k9, k7]; rfl); (simp only [go_sem, k8, k9, k7]; rfl); (simp only [go_sem, k8, k9, k7]; rfl); simp [condsOk])); apply e_spec; decide; (simp only [go_sem, k8, k9, k7]; rfl); (simp only [go_sem, k8, k9, k7]; rfl); (simp only [go_sem, k8, k9, k7]; rfl); (simp only [go_sem, k8, k9, k7]; rfl); trivial; (iterate 3 (apply e_spec; decide; (simp only [go_sem, k8, k9, k7]; rfl); (simp only [go_sem, k8, k9, k7]; rfl); (simp only [go_sem, k8, k9, k7]; rfl); (simp only [go_sem, k8, k9, k7]; rfl); simp [condsOk])); apply e_spec; decide; (simp only [go_sem, k8, k9, k7]; rfl); (simp only [go_sem, k8, k9, k7]; rfl); (simp only [go_sem, k8, k9, k7]; rfl); (simp only [go_sem, k8, k9, k7]; rfl); trivial; apply e_spec; decide; (simp only [go_sem, k8, k9, k7]; rfl); (simp only [go_sem, k8, k9, k7]; rfl); (simp only [go_sem, k8, k9, k7]; rfl); (simp only [go_sem, k8, k9, k7]; rfl); simp [condsOk]; apply e_pick; decide; (simp only [go_sem, k8, k9, k7]; rfl); (simp only [go_sem, k8, k9, k7]; rfl); (simp only [go_sem, k8, k9, k7]; rfl); (simp only [go_sem, k8, k9, k7]; rfl); (simp only [go_sem, k8, k9, k7]; rfl); (simp only [go_sem, k8, k9, k7]; rfl); trivial; simp [condsOk]; trivial; apply e_nil; apply t_nil; simp only [AThen, ABlock]; refine hK _ _ ?_; clear hK K)
      refine cond_split (by simp only [go_sem]; try rfl) (fun hx => ?_) (fun hx => ?_)
      · have hx : numBad own a.events c.events = true := hx
        have hm : lvMay a c s = false := by rw [lvMay, any_at (l := a.nums.zip c.nums) (n := 5) (x := (a.events, c.events)) rfl (by rw [← hown]; exact hx)]; rfl
        rw [hm] at h
        (refine AWp_seq_k (fun K hK => ?_); apply s_region; apply s_store; (simp only [go_sem, k6]; rfl); (simp only [go_sem, k6]; rfl); (simp only [go_sem, k6]; rfl); apply s_nil; simp only [AThen, ABlock]; refine hK _ _ ?_; clear hK K; apply AWp_ret)
        try simp only [AThen, ABlock]
        refine end_ret (av := .v (.bool false)) (by show resAV X.P _ _ [.cell 6 4] = _; simp only [go_sem]; try rfl) ⟨H, hE.over hHp6, h⟩
      · have hx : numBad own a.events c.events = false := hx
        (apply AWp_skip; simp only [AThen, ABlock]; refine hK _ _ ?_; clear hK K; apply s_region; (iterate 2 (apply s_q; decide; rfl; (simp only [go_sem]; rfl))); apply s_nil; simp only [AThen, ABlock])
        refine ⟨6, by omega, ⟨by omega, any_take hok (n := 5) (x := (a.events, c.events)) rfl hx⟩, ?_, by trivial⟩
        simp only [getAll, List.map_cons, List.map_nil, AFr.get, reduceIte, Nat.reduceEqDiff]
        try rfl
    · (refine AWp_seq_k (fun K hK => ?_); apply s_region; apply s_q; decide; rfl; (simp only [go_sem]; rfl); apply s_nil; simp only [AThen, ABlock]; refine hK _ _ ?_; clear hK K; refine AWp_seq_k (fun K hK => ?_))
      refine cond_split (by simp only [go_sem]; try rfl) (fun hd => ?_) (fun hd => ?_)
      rotate_left
      · simp at hd
      (apply AWp_skip; simp only [AThen, ABlock]; refine hK _ _ ?_; clear hK K; refine AWp_seq_k (fun K hK => ?_); apply AWp_block; refine AWp_seq_k (fun K hK => ?_); apply s_region; (iterate 2 (apply s_q; decide; rfl; (simp only [go_sem]; rfl))); apply s_nil; simp only [AThen, ABlock]; refine hK _ _ ?_; clear hK K; refine AWp_seq_k (fun K hK => ?_))
      apply AWp_drawA [0, 1, 2, 3, 4, 5, 6, 7, 8, 9, 10, 11, 12, 13, 14, 15, 16, 17] [] 0 (by exact mixed); kernel_rfl; (simp only [go_sem]; rfl); (simp only [go_sem]; rfl)
      ((iterate 8 (apply e_q; decide; (simp only [go_sem, k8, k9, k7]; rfl))); apply e_spec; decide; (simp only [go_sem, k8, k9, k7]; rfl); (simp only [go_sem, k8, k9, k7]; rfl); (simp only [go_sem, k8, k9, k7]; rfl); (simp only [go_sem, k8, k9, k7]; rfl); trivial; (iterate 2 (apply e_spec; decide; (simp only [go_sem, k8, k9, k7]; rfl); (simp only [go_sem, k8, k9, k7]; rfl); (simp only [go_sem, k8, k9, k7]; rfl); (simp only [go_sem, k8, k9, k7]; rfl); simp [condsOk])); apply e_spec; decide; (simp only [go_sem, k8, k9, k7]; rfl); (simp only [go_sem, k8, k9, k7]; rfl); (simp only [go_sem, k8, k9, k7]; rfl); (simp only [go_sem, k8, k9, k7]; rfl); trivial; (iterate 3 (apply e_spec; decide; (simp only [go_sem, k8, k9, k7]; rfl); (simp only [go_sem, k8, k9, k7]; rfl); (simp only [go_sem, k8, k9, k7]; rfl); (simp only [go_sem, k8, k9, k7]; rfl); simp [condsOk])); apply e_spec; decide; (simp only [go_sem, k8, k9, k7]; rfl); (simp only [go_sem, k8, k9, k7]; rfl); (simp only [go_sem, k8, k9, k7]; rfl); (simp only [go_sem, k8, k9, k7]; rfl); trivial; apply e_spec; decide; (simp only [go_sem, k8, k9, k7]; rfl); (simp only [go_sem, k8, k9, k7]; rfl); (simp only [go_sem, k8, k9, k7]; rfl); (simp only [go_sem, k8, k9, k7]; rfl); simp [condsOk]; apply e_pick; decide; (simp only [go_sem, k8, k9, k7]; rfl); (simp only [go_sem, k8, k9, k7]; rfl); (simp only [go_sem, k8, k9, k7]; rfl); (simp only [go_sem, k8, k9, k7]; rfl); (simp only [go_sem, k8, k9, k7]; rfl); (simp only [go_sem, k8, k9, k7]; rfl); trivial; simp [condsOk]; trivial; apply e_nil; apply t_nil; simp only [AThen, ABlock]; refine hK _ _ ?_; clear hK K)
      refine cond_split (by simp only [go_sem]; try rfl) (fun hx => ?_) (fun hx => ?_)
      · have hx : numBad own a.users c.users = true := hx
        have hm : lvMay a c s = false := by rw [lvMay, any_at (l := a.nums.zip c.nums) (n := 6) (x := (a.users, c.users)) rfl (by rw [← hown]; exact hx)]; rfl
        rw [hm] at h
        (refine AWp_seq_k (fun K hK => ?_); apply s_region; apply s_store; (simp only [go_sem, k6]; rfl); (simp only [go_sem, k6]; rfl); (simp only [go_sem, k6]; rfl); apply s_nil; simp only [AThen, ABlock]; refine hK _ _ ?_; clear hK K; apply AWp_ret)
        try simp only [AThen, ABlock]
        refine end_ret (av := .v (.bool false)) (by show resAV X.P _ _ [.cell 6 4] = _; simp only [go_sem]; try rfl) ⟨H, hE.over hHp6, h⟩
      · have hx : numBad own a.users c.users = false := hx
        (apply AWp_skip; simp only [AThen, ABlock]; refine hK _ _ ?_; clear hK K; apply s_region; (iterate 2 (apply s_q; decide; rfl; (simp only [go_sem]; rfl))); apply s_nil; simp only [AThen, ABlock])
        refine ⟨7, by omega, ⟨by omega, any_take hok (n := 6) (x := (a.users, c.users)) rfl hx⟩, ?_, by trivial⟩
        simp only [getAll, List.map_cons, List.map_nil, AFr.get, reduceIte, Nat.reduceEqDiff]
        try rfl
    · (refine AWp_seq_k (fun K hK => ?_); apply s_region; apply s_q; decide; rfl; (simp only [go_sem]; rfl); apply s_nil; simp only [AThen, ABlock]; refine hK _ _ ?_; clear hK K; refine AWp_seq_k (fun K hK => ?_))
      refine cond_split (by simp only [go_sem]; try rfl) (fun hd => ?_) (fun hd => ?_)
      · simp at hd
      have hnum : (a.nums.zip c.nums).any (fun p => numBad own p.1 p.2) = false := hok
      (apply AWp_exit; simp only [AThen, ABlock, reduceIte, Nat.reduceEqDiff]; clear hK K; refine hK _ _ ?_; clear hK K; refine AWp_seq_k (fun K hK => ?_); apply s_region; apply s_q; decide; rfl; (simp only [go_sem]; rfl); apply s_alloc; decide; exact zc_80; intro b hb; apply s_store; (simp only [go_sem]; rfl); (simp only [go_sem]; rfl); (simp only [go_sem]; rfl); apply s_nil; simp only [AThen, ABlock]; refine hK _ _ ?_; clear hK K; (iterate 2 (refine AWp_seq_k (fun K hK => ?_))); apply s_region; apply s_q; decide; rfl; (simp only [go_sem]; rfl))
      obtain ⟨p11, h11e⟩ : ∃ q, q = b := ⟨_, rfl⟩
      have hp11 := hb
      rw [← h11e] at hp11 ⊢
      clear hb h11e b
      have hF : MayF H p3 p4 p5 p6 p7 p11 a c s own (M3.put p11 (.box 80 [.fn (.func 51) [] [ptrTo p7]])) :=
        ⟨get_fresh k3 hp11, get_fresh k4 hp11, get_fresh k5 hp11, get_fresh k6 hp11, get_fresh k7 hp11, AHeap.get_put_same _ _ _, hE.put hp11⟩
      have hMb : M3.put p11 (.box 80 [.fn (.func 51) [] [AV.v (Value.pointer (some { block := p7, off := 0 }))]]) = M3.put p11 (.box 80 [.fn (.func 51) [] [ptrTo p7]]) := rfl
      rw [hMb]
      generalize M3.put p11 (.box 80 [.fn (.func 51) [] [ptrTo p7]]) = M4 at hF ⊢
      clear k3 k4 k5 k6 k7 k8 k9 hE hMb
      have g3 := hF.g3
      have g4 := hF.g4
      ((iterate 3 (apply s_q; decide; rfl; (simp only [go_sem, g3, g4]; rfl))); apply s_call; decide; (simp only [go_sem, g3, g4]; rfl); (simp only [go_sem, g3, g4]; rfl); apply changes_c a.byType c.byType; intro c1 c2 hc1 hc2; apply s_nil; simp only [AThen, ABlock]; refine hK _ _ ?_; clear hK K; apply AWp_block)
      have i1 := get_fresh (AHeap.get_put_same c1 (.box 27 [.sl false (a.byType.map nmCells)]) M4) hc2 (x := .box 27 [.sl false (c.byType.map nmCells)])
      have i2 := AHeap.get_put_same c2 (.box 27 [.sl false (c.byType.map nmCells)]) (M4.put c1 (.box 27 [.sl false (a.byType.map nmCells)]))
      have hF1 := (hF.put hc1 (o := .box 27 [.sl false (a.byType.map nmCells)])).put hc2 (o := .box 27 [.sl false (c.byType.map nmCells)])
      generalize (M4.put c1 (.box 27 [.sl false (a.byType.map nmCells)])).put c2 (.box 27 [.sl false (c.byType.map nmCells)]) = M5 at i1 i2 hF1 ⊢
      clear hF g3 g4 hc1 hc2
      refine AWp_cut [3, 4, 5, 6, 7, 11, 48] (vs := [ptrTo p3, ptrTo p4, ptrTo p5, ptrTo p6, ptrTo p7, ptrTo p11, .fn (.func 68) [] [ptrTo c1, ptrTo c2]]) rfl ?_
      simp only [List.zip_cons_cons, List.zip_nil_right]
      apply AWp_rangeFunc; exact (by simp only [go_sem]; try rfl); intro y hy
      generalize hlo : AObj.loop 78 _ _ _ _ LoopState.ready none = lo
      have hn := hF1.ne hy
      have n1 := get_ne_fresh i1 hy
      have n2 := get_ne_fresh i2 hy
      refine changesB_c y c1 c2 a.byType c.byType ha.2 hc.2 (fun n L => L.get y = some lo ∧ L.get c1 = some (.box 27 [.sl false (a.byType.map nmCells)]) ∧ L.get c2 = some (.box 27 [.sl false (c.byType.map nmCells)]) ∧
        MayF H p3 p4 p5 p6 p7 p11 a c s own L ∧ ((a.byType ++ c.byType).take n).any (fun x => differs a.byType c.byType x.1 && aboveB own a.byType c.byType x.1) = false) _ (fun n L h => ⟨h.2.1, h.2.2.1⟩)
        (fun n L p o ⟨z1, z2, z3, z4, z5⟩ hp => ⟨get_fresh z1 hp, get_fresh z2 hp, get_fresh z3 hp, z4.put hp, z5⟩) ?_ (fun n x L hx ⟨z1, z2, z3, z4, z5⟩ hd => ⟨z1, z2, z3, z4, any_take z5 hx (by rw [hd]; rfl)⟩) ?_ _ ⟨AHeap.get_put_same _ _ _, get_fresh i1 hy, get_fresh i2 hy, hF1.put hy, rfl⟩
      · rintro n x L hx ⟨z1, z2, z3, z4, z5⟩ hdf
        rw [← hlo] at z1
        apply AYield_intro z1 rfl; decide
        rw [chCells]
        simp only [putAll, List.toList_toArray]
        (apply s_region; apply s_alloc; (dsimp only; decide); exact zc_79; intro b hb; apply s_store; (simp only [go_sem]; rfl); (simp only [go_sem]; rfl); (simp only [go_sem]; rfl); apply s_nil; simp only [AThen, ABlock])
        obtain ⟨p, hpb⟩ : ∃ p, p = b := ⟨_, rfl⟩
        have hp := hb
        rw [← hpb] at hp ⊢
        clear hb hpb b
        have k1 := get_fresh z1 hp (x := chbox a.byType c.byType x.1)
        have k2 := get_fresh z2 hp (x := chbox a.byType c.byType x.1)
        have k3 := get_fresh z3 hp (x := chbox a.byType c.byType x.1)
        have k4 := z4.put hp (o := chbox a.byType c.byType x.1)
        have k5 := AHeap.get_put_same p (chbox a.byType c.byType x.1) L
        have hpy := (get_ne_fresh z1 hp).symm
        have hp6 := get_ne_fresh z4.g6 hp
        generalize L.put p (chbox a.byType c.byType x.1) = M6 at k1 k2 k3 k4 k5 ⊢
        refine ⟨k1, ?_⟩
        generalize hlb : AObj.loop 78 _ _ _ _ LoopState.busy none = lb
        have j := k4.over hn (o := lb)
        have j12 : (M6.put y lb).get p = some (chbox a.byType c.byType x.1) := get_other k5 hpy
        have g11 := j.g11
        have g7 := j.g7
        have g6 := j.g6
        (apply AWp_block; refine AWp_seq_k (fun K hK => ?_); apply s_region; (iterate 2 (apply s_q; (dsimp only; decide); rfl; (simp only [go_sem, g11, j12]; rfl))); apply s_call; (dsimp only; decide); (simp only [go_sem, g11, j12]; rfl); (simp only [go_sem, g11, j12]; rfl); apply above_c p7 own a.byType c.byType x.1 _ g7; apply s_nil; simp only [AThen, ABlock]; refine hK _ _ ?_; clear hK K)
        refine cond_split (by simp only [go_sem]; try rfl) (fun hab => ?_) (fun hab => ?_)
        · (refine AWp_seq_k (fun K hK => ?_); apply s_region; apply s_store; (simp only [go_sem, g6]; rfl); (simp only [go_sem, g6]; rfl); (simp only [go_sem, g6]; rfl); apply s_nil; simp only [AThen, ABlock]; refine hK _ _ ?_; clear hK K; apply AWp_ret)
          simp only [ABlock, ARound]
          refine ⟨(get_other (AHeap.get_put_same y lb _) hn.1.2.2.2.1.symm).trans (by rw [hlb]), .inr ⟨by trivial, _, .done, some .ret, AHeap.get_put_same _ _ _, by decide, ?_⟩⟩
          apply AWp_ret
          simp only [AThen, ABlock]
          generalize AObj.loop 78 _ _ _ _ LoopState.done _ = ld
          have hz6 : ((((M6.put y lb).put p6 (.box 4 [.v (.bool false)])).put y ld).del y).get p6 = some (.box 4 [.v (.bool false)]) := by
            rw [AHeap.get_del, if_neg hn.1.2.2.2.1]; exact get_other (AHeap.get_put_same _ _ _) hn.1.2.2.2.1
          have hm : lvMay a c s = false := by
            have : ((a.byType ++ c.byType).any fun x => differs a.byType c.byType x.1 && aboveB (a.user s) a.byType c.byType x.1) = true := any_at hx (by rw [hdf, ← hown, hab]; rfl)
            rw [lvMay, this]; simp
          rw [hm] at h
          refine end_ret (av := .v (.bool false)) (by show resAV X.P _ _ [.cell 6 4] = _; simp only [go_sem, hz6]; try rfl) ⟨H, ext_del ((j.E.over hHp6).over hn.2) hn.2, h⟩
        · (apply AWp_skip; simp only [AThen, ABlock])
          simp only [ABlock, ARound]
          refine ⟨?_, .inl ⟨by trivial, ?_, ?_, ?_, ?_, ?_⟩⟩
          · rw [AHeap.get_put_same, hlb]
          · rw [AHeap.get_put_same, hlo]
          · exact get_other (get_other k2 n1) n1
          · exact get_other (get_other k3 n2) n2
          · exact j.over hn
          · exact any_take z5 hx (by rw [hdf, hab]; rfl)
      · rintro L ⟨z1, z2, z3, z4, z5⟩
        refine ⟨_, .ready, none, by rw [z1, ← hlo], by simp, ?_⟩
        simp only [ABlock, AThen]
        (first | (refine hK _ _ ?_; clear hK K) | (clear hK K; refine hK _ _ ?_; clear hK K) | (clear hK K; clear hK K; refine hK _ _ ?_; clear hK K))
        have hF2 := z4.del hn
        generalize L.del y = M7 at hF2 ⊢
        rw [List.take_length] at z5
        clear hlo hn n1 n2 z1 z2 z3 z4 hy i1 i2 hF1
        have g3 := hF2.g3
        have g4 := hF2.g4
        ((iterate 2 (refine AWp_seq_k (fun K hK => ?_))); apply s_region; (iterate 4 (apply s_q; decide; rfl; (simp only [go_sem, g3, g4]; rfl))); apply s_call; decide; (simp only [go_sem, g3, g4]; rfl); (simp only [go_sem, g3, g4]; rfl); apply changes_c a.byUser c.byUser; intro c1 c2 hc1 hc2; apply s_nil; simp only [AThen, ABlock]; refine hK _ _ ?_; clear hK K; apply AWp_block)
        have i1 := get_fresh (AHeap.get_put_same c1 (.box 27 [.sl false (a.byUser.map nmCells)]) M7) hc2 (x := .box 27 [.sl false (c.byUser.map nmCells)])
        have i2 := AHeap.get_put_same c2 (.box 27 [.sl false (c.byUser.map nmCells)]) (M7.put c1 (.box 27 [.sl false (a.byUser.map nmCells)]))
        have hF1 := (hF2.put hc1 (o := .box 27 [.sl false (a.byUser.map nmCells)])).put hc2 (o := .box 27 [.sl false (c.byUser.map nmCells)])
        generalize (M7.put c1 (.box 27 [.sl false (a.byUser.map nmCells)])).put c2 (.box 27 [.sl false (c.byUser.map nmCells)]) = M8 at i1 i2 hF1 ⊢
        clear hF2 g3 g4 hc1 hc2
        refine AWp_cut [3, 4, 5, 6, 7, 11, 57] (vs := [ptrTo p3, ptrTo p4, ptrTo p5, ptrTo p6, ptrTo p7, ptrTo p11, .fn (.func 68) [] [ptrTo c1, ptrTo c2]]) rfl ?_
        simp only [List.zip_cons_cons, List.zip_nil_right]
        apply AWp_rangeFunc; exact (by simp only [go_sem]; try rfl); intro y hy
        generalize hlo : AObj.loop 78 _ _ _ _ LoopState.ready none = lo
        have hn := hF1.ne hy
        have n1 := get_ne_fresh i1 hy
        have n2 := get_ne_fresh i2 hy
        refine changesB_c y c1 c2 a.byUser c.byUser ha.1 hc.1 (fun n L => L.get y = some lo ∧ L.get c1 = some (.box 27 [.sl false (a.byUser.map nmCells)]) ∧ L.get c2 = some (.box 27 [.sl false (c.byUser.map nmCells)]) ∧
          MayF H p3 p4 p5 p6 p7 p11 a c s own L ∧ ((a.byUser ++ c.byUser).take n).any (fun x => differs a.byUser c.byUser x.1 && badU own s a.byUser c.byUser x.1) = false) _ (fun n L h => ⟨h.2.1, h.2.2.1⟩)
          (fun n L p o ⟨z1, z2, z3, z4, z5⟩ hp => ⟨get_fresh z1 hp, get_fresh z2 hp, get_fresh z3 hp, z4.put hp, z5⟩) ?_ (fun n x L hx ⟨z1, z2, z3, z4, z5⟩ hd => ⟨z1, z2, z3, z4, any_take z5 hx (by rw [hd]; rfl)⟩) ?_ _ ⟨AHeap.get_put_same _ _ _, get_fresh i1 hy, get_fresh i2 hy, hF1.put hy, rfl⟩
        · rintro n x L hx ⟨z1, z2, z3, z4, z5⟩ hdf
          rw [← hlo] at z1
          apply AYield_intro z1 rfl; decide
          rw [chCells]
          simp only [putAll, List.toList_toArray]
          (apply s_region; apply s_alloc; (dsimp only; decide); exact zc_79; intro b hb; apply s_store; (simp only [go_sem]; rfl); (simp only [go_sem]; rfl); (simp only [go_sem]; rfl); apply s_nil; simp only [AThen, ABlock])
          obtain ⟨p, hpb⟩ : ∃ p, p = b := ⟨_, rfl⟩
          have hp := hb
          rw [← hpb] at hp ⊢
          clear hb hpb b
          have k1 := get_fresh z1 hp (x := chbox a.byUser c.byUser x.1)
          have k2 := get_fresh z2 hp (x := chbox a.byUser c.byUser x.1)
          have k3 := get_fresh z3 hp (x := chbox a.byUser c.byUser x.1)
          have k4 := z4.put hp (o := chbox a.byUser c.byUser x.1)
          have k5 := AHeap.get_put_same p (chbox a.byUser c.byUser x.1) L
          have hpy := (get_ne_fresh z1 hp).symm
          have hp6 := get_ne_fresh z4.g6 hp
          generalize L.put p (chbox a.byUser c.byUser x.1) = M6 at k1 k2 k3 k4 k5 ⊢
          refine ⟨k1, ?_⟩
          generalize hlb : AObj.loop 78 _ _ _ _ LoopState.busy none = lb
          have j := k4.over hn (o := lb)
          have j12 : (M6.put y lb).get p = some (chbox a.byUser c.byUser x.1) := get_other k5 hpy
          have g11 := j.g11
          have g7 := j.g7
          have g6 := j.g6
          have g5 := j.g5
          (apply AWp_block; refine AWp_seq_k (fun K hK => ?_); apply s_region; (iterate 2 (apply s_q; (dsimp only; decide); rfl; (simp only [go_sem, g11, j12, g5, g7]; rfl))); apply s_call; (dsimp only; decide); (simp only [go_sem, g11, j12, g5, g7]; rfl); (simp only [go_sem, g11, j12, g5, g7]; rfl); apply above_c p7 own a.byUser c.byUser x.1 _ g7; apply s_q; (dsimp only; decide); rfl; (simp only [go_sem, g11, j12, g5, g7]; rfl); apply s_spec; (dsimp only; decide); rfl; rfl; (simp only [go_sem, g11, j12, g5, g7]; rfl); (simp only [go_sem, g11, j12, g5, g7]; rfl); (simp only [go_sem, g11, j12, g5, g7]; rfl); (simp only [go_sem, g11, j12, g5, g7]; rfl); trivial; (iterate 2 (apply s_spec; (dsimp only; decide); rfl; rfl; (simp only [go_sem, g11, j12, g5, g7]; rfl); (simp only [go_sem, g11, j12, g5, g7]; rfl); (simp only [go_sem, g11, j12, g5, g7]; rfl); (simp only [go_sem, g11, j12, g5, g7]; rfl); simp [condsOk])); apply s_spec; (dsimp only; decide); rfl; rfl; (simp only [go_sem, g11, j12, g5, g7]; rfl); (simp only [go_sem, g11, j12, g5, g7]; rfl); (simp only [go_sem, g11, j12, g5, g7]; rfl); (simp only [go_sem, g11, j12, g5, g7]; rfl); trivial; apply s_spec; (dsimp only; decide); rfl; rfl; (simp only [go_sem, g11, j12, g5, g7]; rfl); (simp only [go_sem, g11, j12, g5, g7]; rfl); (simp only [go_sem, g11, j12, g5, g7]; rfl); (simp only [go_sem, g11, j12, g5, g7]; rfl); simp [condsOk]; apply s_spec; (dsimp only; decide); rfl; rfl; (simp only [go_sem, g11, j12, g5, g7]; rfl); (simp only [go_sem, g11, j12, g5, g7]; rfl); (simp only [go_sem, g11, j12, g5, g7]; rfl); (simp only [go_sem, g11, j12, g5, g7]; rfl); trivial; apply s_spec; (dsimp only; decide); rfl; rfl; (simp only [go_sem, g11, j12, g5, g7]; rfl); (simp only [go_sem, g11, j12, g5, g7]; rfl); (simp only [go_sem, g11, j12, g5, g7]; rfl); (simp only [go_sem, g11, j12, g5, g7]; rfl); simp [condsOk]; apply s_pickg; (dsimp only; decide); (simp only [go_sem, g11, j12, g5, g7]; rfl); (simp only [go_sem, g11, j12, g5, g7]; rfl); (simp only [go_sem, g11, j12, g5, g7]; rfl); (simp only [go_sem, g11, j12, g5, g7]; rfl); (simp only [go_sem, g11, j12, g5, g7]; rfl); (simp only [go_sem, g11, j12, g5, g7]; rfl); (simp only [go_sem, g11, j12, g5, g7]; rfl); (simp only [go_sem, g11, j12, g5, g7]; rfl); simp [condsOk]; simp [condsOk]; trivial; apply s_spec; (dsimp only; decide); rfl; rfl; (simp only [go_sem, g11, j12, g5, g7]; rfl); (simp only [go_sem, g11, j12, g5, g7]; rfl); (simp only [go_sem, g11, j12, g5, g7]; rfl); (simp only [go_sem, g11, j12, g5, g7]; rfl); simp [condsOk]; apply s_spec; (dsimp only; decide); rfl; rfl; (simp only [go_sem, g11, j12, g5, g7]; rfl); (simp only [go_sem, g11, j12, g5, g7]; rfl); (simp only [go_sem, g11, j12, g5, g7]; rfl); (simp only [go_sem, g11, j12, g5, g7]; rfl); trivial; apply s_spec; (dsimp only; decide); rfl; rfl; (simp only [go_sem, g11, j12, g5, g7]; rfl); (simp only [go_sem, g11, j12, g5, g7]; rfl); (simp only [go_sem, g11, j12, g5, g7]; rfl); (simp only [go_sem, g11, j12, g5, g7]; rfl); simp [condsOk]; apply s_spec; (dsimp only; decide); rfl; rfl; (simp only [go_sem, g11, j12, g5, g7]; rfl); (simp only [go_sem, g11, j12, g5, g7]; rfl); (simp only [go_sem, g11, j12, g5, g7]; rfl); (simp only [go_sem, g11, j12, g5, g7]; rfl); trivial; apply s_spec; (dsimp only; decide); rfl; rfl; (simp only [go_sem, g11, j12, g5, g7]; rfl); (simp only [go_sem, g11, j12, g5, g7]; rfl); (simp only [go_sem, g11, j12, g5, g7]; rfl); (simp only [go_sem, g11, j12, g5, g7]; rfl); simp [condsOk]; apply s_pickg; (dsimp only; decide); (simp only [go_sem, g11, j12, g5, g7]; rfl); (simp only [go_sem, g11, j12, g5, g7]; rfl); (simp only [go_sem, g11, j12, g5, g7]; rfl); (simp only [go_sem, g11, j12, g5, g7]; rfl); (simp only [go_sem, g11, j12, g5, g7]; rfl); (simp only [go_sem, g11, j12, g5, g7]; rfl); (simp only [go_sem, g11, j12, g5, g7]; rfl); (simp only [go_sem, g11, j12, g5, g7]; rfl); simp [condsOk]; simp [condsOk]; trivial; apply s_pick; (dsimp only; decide); (simp only [go_sem, g11, j12, g5, g7]; rfl); (simp only [go_sem, g11, j12, g5, g7]; rfl); (simp only [go_sem, g11, j12, g5, g7]; rfl); (simp only [go_sem, g11, j12, g5, g7]; rfl); (simp only [go_sem, g11, j12, g5, g7]; rfl); (simp only [go_sem, g11, j12, g5, g7]; rfl); trivial; trivial; simp [condsOk]; apply s_nil; simp only [AThen, ABlock]; refine hK _ _ ?_; clear hK K)
          refine cond_split (by simp only [go_sem]; try rfl) (fun hab => ?_) (fun hab => ?_)
          · have hab : badU own s a.byUser c.byUser x.1 = true := hab
            (refine AWp_seq_k (fun K hK => ?_); apply s_region; apply s_store; (simp only [go_sem, g6]; rfl); (simp only [go_sem, g6]; rfl); (simp only [go_sem, g6]; rfl); apply s_nil; simp only [AThen, ABlock]; refine hK _ _ ?_; clear hK K; apply AWp_ret)
            simp only [ABlock, ARound]
            refine ⟨(get_other (AHeap.get_put_same y lb _) hn.1.2.2.2.1.symm).trans (by rw [hlb]), .inr ⟨by trivial, _, .done, some .ret, AHeap.get_put_same _ _ _, by decide, ?_⟩⟩
            apply AWp_ret
            simp only [AThen, ABlock]
            generalize AObj.loop 78 _ _ _ _ LoopState.done _ = ld
            have hz6 : ((((M6.put y lb).put p6 (.box 4 [.v (.bool false)])).put y ld).del y).get p6 = some (.box 4 [.v (.bool false)]) := by
              rw [AHeap.get_del, if_neg hn.1.2.2.2.1]; exact get_other (AHeap.get_put_same _ _ _) hn.1.2.2.2.1
            have hm : lvMay a c s = false := by
              have : ((a.byUser ++ c.byUser).any fun x => differs a.byUser c.byUser x.1 && badU (a.user s) s a.byUser c.byUser x.1) = true := any_at hx (by rw [hdf, ← hown, hab]; rfl)
              rw [lvMay, this]; simp
            rw [hm] at h
            refine end_ret (av := .v (.bool false)) (by show resAV X.P _ _ [.cell 6 4] = _; simp only [go_sem, hz6]; try rfl) ⟨H, ext_del ((j.E.over hHp6).over hn.2) hn.2, h⟩
          · have hab : badU own s a.byUser c.byUser x.1 = false := hab
            (apply AWp_skip; simp only [AThen, ABlock])
            simp only [ABlock, ARound]
            refine ⟨?_, .inl ⟨by trivial, ?_, ?_, ?_, ?_, ?_⟩⟩
            · rw [AHeap.get_put_same, hlb]
            · rw [AHeap.get_put_same, hlo]
            · exact get_other (get_other k2 n1) n1
            · exact get_other (get_other k3 n2) n2
            · exact j.over hn
            · exact any_take z5 hx (by rw [hdf, hab]; rfl)
        · rintro L ⟨z1, z2, z3, z4, z6⟩
          refine ⟨_, .ready, none, by rw [z1, ← hlo], by simp, ?_⟩
          simp only [ABlock, AThen]
          (first | (refine hK _ _ ?_; clear hK K) | (clear hK K; refine hK _ _ ?_; clear hK K) | (clear hK K; clear hK K; refine hK _ _ ?_; clear hK K))
          have hF3 := z4.del hn
          generalize L.del y = M9 at hF3 ⊢
          rw [List.take_length] at z6
          have hm : lvMay a c s = true := by
            rw [lvMay, ← hown, hnum, z5, z6]; rfl
          rw [hm] at h
          have g6 := hF3.g6
          (refine AWp_seq_k (fun K hK => ?_); apply s_region; apply s_store; (simp only [go_sem, g6]; rfl); (simp only [go_sem, g6]; rfl); (simp only [go_sem, g6]; rfl); apply s_nil; simp only [AThen, ABlock]; refine hK _ _ ?_; clear hK K; apply AWp_ret)
          try simp only [AThen, ABlock]
          refine end_ret (av := .v (.bool true)) (by show resAV X.P _ _ [.cell 6 4] = _; simp only [go_sem]; try rfl) ⟨H, hF3.E.over hHp6, h⟩
  apply AWp_draw2 [0, 1, 2, 3] [4, 5, 6, 7] [5, 4, 6, 7] 2 (by exact mixed); kernel_rfl; (simp only [go_sem]; rfl); (simp only [go_sem]; rfl); (simp only [go_sem]; rfl)
  (apply e_q; decide; (simp only [go_sem, q4, q3]; rfl); apply e_call; decide; (simp only [go_sem, q4, q3]; rfl); (simp only [go_sem, q4, q3]; rfl); (refine ACall.args_eq (bs := [.agg a.cells]) ?_ ?_; (focus (rw [Lv.cells]; done)); apply numbers_c a; exact ⟨rfl, rfl⟩); apply e_q; decide; (simp only [go_sem, q4, q3]; rfl); apply e_call; decide; (simp only [go_sem, q4, q3]; rfl); (simp only [go_sem, q4, q3]; rfl); (refine ACall.args_eq (bs := [.agg c.cells]) ?_ ?_; (focus (rw [Lv.cells]; done)); apply numbers_c c; exact ⟨rfl, rfl⟩); apply e_nil)
  refine ⟨?_, ?_⟩
  · apply t_alloc; decide; exact zc_76; (intro _; exact Ext.refl _); intro p8 hp8 he8
    apply t_alloc; decide; exact zc_76; (intro _; exact he8 (by decide)); intro p9 hp9 he9
    have hne : p8 ≠ p9 := by rintro rfl; rw [AHeap.get_put_same] at hp9; cases hp9
    have v8 := get_ne_fresh q0 hp8
    have w9 := fun {b : Nat} {o : AObj} (hb : M2.get b = some o) => get_ne_fresh (get_fresh hb hp8 (x := .box 76 [.v (.int .i64 0), .v (.int .i64 0), .v (.int .i64 0), .v (.int .i64 0), .v (.int .i64 0), .v (.int .i64 0), .v (.int .i64 0)])) hp9
    have w8 := fun {b : Nat} {o : AObj} (hb : M2.get b = some o) => get_ne_fresh hb hp8
    apply t_storex rfl rfl (H' := ((M2.put p8 (.box 76 [.v (.int .i64 0), .v (.int .i64 0), .v (.int .i64 0), .v (.int .i64 0), .v (.int .i64 0), .v (.int .i64 0), .v (.int .i64 0)])).put p9 (.box 76 [.v (.int .i64 0), .v (.int .i64 0), .v (.int .i64 0), .v (.int .i64 0), .v (.int .i64 0), .v (.int .i64 0), .v (.int .i64 0)])).put p8 (.box 76 (numCells a))) (by simp only [go_sem, get_fresh (AHeap.get_put_same p8 (.box 76 [.v (.int .i64 0), .v (.int .i64 0), .v (.int .i64 0), .v (.int .i64 0), .v (.int .i64 0), .v (.int .i64 0), .v (.int .i64 0)]) M2) hp9]; try rfl) (fun h => absurd h (by decide))
    apply t_storex rfl rfl (H' := (((M2.put p8 (.box 76 [.v (.int .i64 0), .v (.int .i64 0), .v (.int .i64 0), .v (.int .i64 0), .v (.int .i64 0), .v (.int .i64 0), .v (.int .i64 0)])).put p9 (.box 76 [.v (.int .i64 0), .v (.int .i64 0), .v (.int .i64 0), .v (.int .i64 0), .v (.int .i64 0), .v (.int .i64 0), .v (.int .i64 0)])).put p8 (.box 76 (numCells a))).put p9 (.box 76 (numCells c))) (by simp only [go_sem, get_other (AHeap.get_put_same p9 (.box 76 [.v (.int .i64 0), .v (.int .i64 0), .v (.int .i64 0), .v (.int .i64 0), .v (.int .i64 0), .v (.int .i64 0), .v (.int .i64 0)]) _) hne.symm]; try rfl) (fun h => absurd h (by decide))
    apply t_nil
    try simp only [AThen, ABlock]
    have G : ∀ {b : Nat} {o : AObj}, M2.get b = some o → ((((M2.put p8 (.box 76 [.v (.int .i64 0), .v (.int .i64 0), .v (.int .i64 0), .v (.int .i64 0), .v (.int .i64 0), .v (.int .i64 0), .v (.int .i64 0)])).put p9 (.box 76 [.v (.int .i64 0), .v (.int .i64 0), .v (.int .i64 0), .v (.int .i64 0), .v (.int .i64 0), .v (.int .i64 0), .v (.int .i64 0)])).put p8 (.box 76 (numCells a))).put p9 (.box 76 (numCells c))).get b = some o := fun hb =>
      get_other (get_other (get_other (get_other hb (w8 hb)) (w9 hb)) (w8 hb)) (w9 hb)
    refine hcont p8 p9 _ _ rfl (G q4) (G q3) (G q2) (G q1) (G q0) (get_other (AHeap.get_put_same p8 _ _) hne) (AHeap.get_put_same p9 _ _) ?_
    exact fun b o hb => G (E2 b o hb)
  · apply t_alloc; decide; exact zc_76; (intro _; exact Ext.refl _); intro p9 hp9 he9
    apply t_alloc; decide; exact zc_76; (intro _; exact he9 (by decide)); intro p8 hp8 he8
    have hne : p9 ≠ p8 := by rintro rfl; rw [AHeap.get_put_same] at hp8; cases hp8
    have w8 := fun {b : Nat} {o : AObj} (hb : M2.get b = some o) => get_ne_fresh (get_fresh hb hp9 (x := .box 76 [.v (.int .i64 0), .v (.int .i64 0), .v (.int .i64 0), .v (.int .i64 0), .v (.int .i64 0), .v (.int .i64 0), .v (.int .i64 0)])) hp8
    have w9 := fun {b : Nat} {o : AObj} (hb : M2.get b = some o) => get_ne_fresh hb hp9
    apply t_storex rfl rfl (H' := ((M2.put p9 (.box 76 [.v (.int .i64 0), .v (.int .i64 0), .v (.int .i64 0), .v (.int .i64 0), .v (.int .i64 0), .v (.int .i64 0), .v (.int .i64 0)])).put p8 (.box 76 [.v (.int .i64 0), .v (.int .i64 0), .v (.int .i64 0), .v (.int .i64 0), .v (.int .i64 0), .v (.int .i64 0), .v (.int .i64 0)])).put p8 (.box 76 (numCells a))) (by simp only [go_sem]; try rfl) (fun h => absurd h (by decide))
    apply t_storex rfl rfl (H' := (((M2.put p9 (.box 76 [.v (.int .i64 0), .v (.int .i64 0), .v (.int .i64 0), .v (.int .i64 0), .v (.int .i64 0), .v (.int .i64 0), .v (.int .i64 0)])).put p8 (.box 76 [.v (.int .i64 0), .v (.int .i64 0), .v (.int .i64 0), .v (.int .i64 0), .v (.int .i64 0), .v (.int .i64 0), .v (.int .i64 0)])).put p8 (.box 76 (numCells a))).put p9 (.box 76 (numCells c))) (by simp only [go_sem, get_other (AHeap.get_put_same p9 (.box 76 [.v (.int .i64 0), .v (.int .i64 0), .v (.int .i64 0), .v (.int .i64 0), .v (.int .i64 0), .v (.int .i64 0), .v (.int .i64 0)]) M2) hne]; try rfl) (fun h => absurd h (by decide))
    apply t_nil
    try simp only [AThen, ABlock]
    have G : ∀ {b : Nat} {o : AObj}, M2.get b = some o → ((((M2.put p9 (.box 76 [.v (.int .i64 0), .v (.int .i64 0), .v (.int .i64 0), .v (.int .i64 0), .v (.int .i64 0), .v (.int .i64 0), .v (.int .i64 0)])).put p8 (.box 76 [.v (.int .i64 0), .v (.int .i64 0), .v (.int .i64 0), .v (.int .i64 0), .v (.int .i64 0), .v (.int .i64 0), .v (.int .i64 0)])).put p8 (.box 76 (numCells a))).put p9 (.box 76 (numCells c))).get b = some o := fun hb =>
      get_other (get_other (get_other (get_other hb (w9 hb)) (w8 hb)) (w8 hb)) (w9 hb)
    refine hcont p8 p9 _ _ rfl (G q4) (G q3) (G q2) (G q1) (G q0) (get_other (AHeap.get_put_same p8 _ _) hne.symm) (AHeap.get_put_same p9 _ _) ?_
    exact fun b o hb => G (E2 b o hb)
end Go.Proofs.YtniaafncmnilgaaGreatDoor
