/-
  Power: User, Type, Start, numbers, level; the same of the document. Contracts.
-/
import Derived.Test.YtniaafncmnilgaaGreatDoorPA
set_option linter.unusedSimpArgs false
set_option linter.unusedVariables false
set_option maxRecDepth 100000
namespace Go.Proofs.YtniaafncmnilgaaGreatDoor
open Go Go.AL
attribute [local irreducible] AOps AWp SOps AE AT ACall AApp

abbrev lvbox (l : Lv) : AObj := .box 29 [.v (.int .i64 l.ban), .v (.int .i64 l.kick), .v (.int .i64 l.invite), .v (.int .i64 l.redact), .v (.int .i64 l.state), .v (.int .i64 l.events), .v (.int .i64 l.users), .sl false (l.byUser.map nmCells), .sl false (l.byType.map nmCells)]

theorem puser_c (l : Lv) (hl : l.Len) (s : List UInt8) (H : AHeap) (Kc : AV → AHeap → Prop) (h : Kc (.v (.int .i64 (l.user s))) H) : ACall X 25 [.agg l.cells, .s s] H Kc := by
  refine ACall.drop ?_
  rw [Lv.cells]
  refine ACall_intro Tryz.func25 rfl (by kernel_rfl) (by rw [Tryz.ntmps25]; simp) ?_; rw [Tryz.ntmps25]; simp only [frame0, Nat.reduceAdd]
  refine AWp_seq_k (fun K hK => ?_); apply s_region
  apply s_box; decide; exact (by simp only [go_sem]; try rfl); exact (by simp only [go_sem]; try rfl); intro q hq
  have g1 := AHeap.get_put_same q (lvbox l) H
  have hE := Ext.fresh hq (o := lvbox l)
  generalize H.put q (lvbox l) = M at g1 hE ⊢
  (apply s_q; decide; rfl; (simp only [go_sem, g1]; rfl); apply s_nil; simp only [AThen, ABlock]; refine hK _ _ ?_; clear hK K; (iterate 2 (refine AWp_seq_k (fun K hK => ?_))); apply s_region; (iterate 3 (apply s_q; decide; rfl; (simp only [go_sem, g1]; rfl))); apply s_call; decide; (simp only [go_sem, g1]; rfl); (simp only [go_sem, g1]; rfl); apply find_c false l.byUser (by have := hl.1; omega) s; (iterate 5 (apply s_q; decide; rfl; (simp only [go_sem, g1]; rfl))); apply s_nil; simp only [AThen, ABlock]; refine hK _ _ ?_; clear hK K; refine AWp_seq_k (fun K hK => ?_); apply s_region; apply s_q; decide; rfl; (simp only [go_sem, g1]; rfl); apply s_nil; simp only [AThen, ABlock]; refine hK _ _ ?_; clear hK K)
  rw [Lv.user] at h
  refine cond_split (by simp only [go_sem]; try rfl) (fun hc => ?_) (fun hc => ?_)
  · rw [if_pos hc] at h
    (refine AWp_seq_k (fun K hK => ?_); apply s_region; (iterate 2 (apply s_q; decide; rfl; (simp only [go_sem, g1]; rfl))); apply s_nil; simp only [AThen, ABlock]; refine hK _ _ ?_; clear hK K; apply AWp_ret; simp only [AThen, ABlock]; apply end_ret; rfl; simp only [AFr.get, reduceIte, Nat.reduceEqDiff])
    exact ⟨H, hE, h⟩
  · rw [if_neg (by simpa using hc)] at h
    (apply AWp_skip; simp only [AThen, ABlock]; refine hK _ _ ?_; clear hK K; refine AWp_seq_k (fun K hK => ?_); apply s_region; (iterate 3 (apply s_q; decide; rfl; (simp only [go_sem, g1]; rfl))); apply s_nil; simp only [AThen, ABlock]; refine hK _ _ ?_; clear hK K; apply AWp_ret)
    exact ⟨H, hE, h⟩
theorem zc_seven : zC X.P 76 = some [.v (.int .i64 0), .v (.int .i64 0), .v (.int .i64 0), .v (.int .i64 0), .v (.int .i64 0), .v (.int .i64 0), .v (.int .i64 0)] := zc_76
abbrev numCells (l : Lv) : List AV := [.v (.int .i64 l.ban), .v (.int .i64 l.kick), .v (.int .i64 l.invite), .v (.int .i64 l.redact), .v (.int .i64 l.state), .v (.int .i64 l.events), .v (.int .i64 l.users)]
theorem numbers_c (l : Lv) (H : AHeap) (Kc : AV → AHeap → Prop) (h : Kc (.agg (numCells l)) H) : ACall X 50 [.agg l.cells] H Kc := by
  refine ACall.drop ?_
  rw [Lv.cells]
  refine ACall_intro Tryz.func50 rfl (by kernel_rfl) (by rw [Tryz.ntmps50]; simp) ?_; rw [Tryz.ntmps50]; simp only [frame0, Nat.reduceAdd]
  refine AWp_seq_k (fun K hK => ?_); apply s_region
  apply s_box; decide; exact (by simp only [go_sem]; try rfl); exact (by simp only [go_sem]; try rfl); intro q hq
  apply s_alloc; decide; exact zc_seven; intro r hr
  apply s_nil; simp only [AThen, ABlock]; refine hK _ _ ?_; clear hK K
  have g1 := get_fresh (AHeap.get_put_same q (lvbox l) H) hr (x := .box 76 [.v (.int .i64 0), .v (.int .i64 0), .v (.int .i64 0), .v (.int .i64 0), .v (.int .i64 0), .v (.int .i64 0), .v (.int .i64 0)])
  have g2 := AHeap.get_put_same r (.box 76 [.v (.int .i64 0), .v (.int .i64 0), .v (.int .i64 0), .v (.int .i64 0), .v (.int .i64 0), .v (.int .i64 0), .v (.int .i64 0)]) (H.put q (lvbox l))
  have g3 := (Ext.fresh hq (o := lvbox l)).put hr (ob := .box 76 [.v (.int .i64 0), .v (.int .i64 0), .v (.int .i64 0), .v (.int .i64 0), .v (.int .i64 0), .v (.int .i64 0), .v (.int .i64 0)])
  have hHr : H.get r = none := none_fresh hr
  generalize (H.put q (lvbox l)).put r (.box 76 [.v (.int .i64 0), .v (.int .i64 0), .v (.int .i64 0), .v (.int .i64 0), .v (.int .i64 0), .v (.int .i64 0), .v (.int .i64 0)]) = M at g1 g2 g3 ⊢
  (refine AWp_seq_k (fun K hK => ?_); apply s_region; (iterate 15 (apply s_q; decide; rfl; (simp only [go_sem, g1, g2]; rfl))); apply s_store; (simp only [go_sem, g1, g2]; rfl); (simp only [go_sem, g1, g2]; rfl); (simp only [go_sem, g1, g2]; rfl); apply s_nil; simp only [AThen, ABlock]; refine hK _ _ ?_; clear hK K; apply AWp_ret)
  refine end_ret (av := .agg (numCells l)) (by show resAV X.P _ _ [.cell 2 76] = _; simp only [go_sem]; try rfl) ⟨H, g3.over hHr, h⟩
def levelB (j : J) : Bool := if (if decide (j.kind = 2) = true then decide (-1073741824 ≤ j.int) else false) = true then decide (j.int ≤ 1073741824) else false
theorem level_c (j : J) (H : AHeap) (Kc : AV → AHeap → Prop) (h : Kc (.tup [.v (.int .i64 j.int), .v (.bool (levelB j))]) H) : ACall X 41 [.agg j.cells] H Kc := by
  refine ACall.drop ?_
  rw [J.cells_eq]
  refine ACall_intro Tryz.func41 rfl (by kernel_rfl) (by rw [Tryz.ntmps41]; simp) ?_; rw [Tryz.ntmps41]; simp only [frame0, Nat.reduceAdd]
  refine AWp_seq_k (fun K hK => ?_); apply s_region
  apply s_box; decide; exact (by simp only [go_sem]; try rfl); exact (by simp only [go_sem]; try rfl); intro q hq
  have g1 := AHeap.get_put_same q (.box 25 [.v (.int .i64 j.kind), .v (.int .i64 j.int), .s j.text, .sl false (j.keys.map strCells), .sl false (j.list.map J.cells)]) H
  have hE := Ext.fresh hq (o := .box 25 [.v (.int .i64 j.kind), .v (.int .i64 j.int), .s j.text, .sl false (j.keys.map strCells), .sl false (j.list.map J.cells)])
  generalize H.put q (.box 25 [.v (.int .i64 j.kind), .v (.int .i64 j.int), .s j.text, .sl false (j.keys.map strCells), .sl false (j.list.map J.cells)]) = M at g1 hE ⊢
  ((iterate 2 (apply s_q; decide; rfl; (simp only [go_sem]; rfl))); apply s_nil; simp only [AThen, ABlock]; refine hK _ _ ?_; clear hK K; refine AWp_seq_k (fun K hK => ?_))
  apply AWp_drawA [0, 1, 2, 3, 4, 5, 6, 7, 8, 9, 10, 11, 12, 13, 14, 15, 16] [] 0 (by exact mixed); kernel_rfl; (simp only [go_sem]; rfl); (simp only [go_sem]; rfl)
  ((iterate 6 (apply e_q; decide; (simp only [go_sem, g1]; rfl))); apply e_spec; decide; (simp only [go_sem, g1]; rfl); (simp only [go_sem, g1]; rfl); (simp only [go_sem, g1]; rfl); (simp only [go_sem, g1]; rfl); trivial; (iterate 2 (apply e_spec; decide; (simp only [go_sem, g1]; rfl); (simp only [go_sem, g1]; rfl); (simp only [go_sem, g1]; rfl); (simp only [go_sem, g1]; rfl); simp [condsOk])); apply e_pick; decide; (simp only [go_sem, g1]; rfl); (simp only [go_sem, g1]; rfl); (simp only [go_sem, g1]; rfl); (simp only [go_sem, g1]; rfl); (simp only [go_sem, g1]; rfl); (simp only [go_sem, g1]; rfl); trivial; simp [condsOk]; trivial; apply e_q; decide; (simp only [go_sem, g1]; rfl); apply e_spec; decide; (simp only [go_sem, g1]; rfl); (simp only [go_sem, g1]; rfl); (simp only [go_sem, g1]; rfl); (simp only [go_sem, g1]; rfl); trivial; (iterate 2 (apply e_spec; decide; (simp only [go_sem, g1]; rfl); (simp only [go_sem, g1]; rfl); (simp only [go_sem, g1]; rfl); (simp only [go_sem, g1]; rfl); simp [condsOk])); apply e_pick; decide; (simp only [go_sem, g1]; rfl); (simp only [go_sem, g1]; rfl); (simp only [go_sem, g1]; rfl); (simp only [go_sem, g1]; rfl); (simp only [go_sem, g1]; rfl); (simp only [go_sem, g1]; rfl); trivial; simp [condsOk]; trivial; (iterate 2 (apply e_q; decide; (simp only [go_sem, g1]; rfl))); apply e_nil; apply t_nil; simp only [AThen, ABlock]; refine hK _ _ ?_; clear hK K; apply AWp_ret)
  refine end_ret (av := .tup [.v (.int .i64 j.int), .v (.bool (levelB j))]) ?_ ⟨H, hE, h⟩
  show resAV X.P _ _ [.tmp 2, .tmp 3] = _
  simp only [go_sem, levelB]; try rfl
end Go.Proofs.YtniaafncmnilgaaGreatDoor
