/-
  PowerLevels: walked. Contracts.
-/
import Derived.Test.YtniaafncmnilgaaGreatDoorPR
set_option linter.unusedSimpArgs false
set_option linter.unusedVariables false
set_option maxRecDepth 100000
namespace Go.Proofs.YtniaafncmnilgaaGreatDoor
open Go Go.AL
attribute [local irreducible] AOps AWp SOps AE AT ACall AApp

abbrev stCells (s : List UInt8) : List AV := lvcells 50 50 0 50 0 0 0 (.sl false [[.s s, .v (.int .i64 100)]]) (.sl false [])
theorem eq_named : eqT X.P 58 = some [(0, tk X.P 9), (1, tk X.P 2)] := by kernel_rfl
/-- a row is the same as itself -/
theorem rsameSelf_c (u : List Nm) (hu : u.length ≤ 1000000000) (H : AHeap) (Kc : AV → AHeap → Prop) (h : Kc (.v (.bool true)) H) : ACall X 23 [.sl false (u.map nmCells), .sl false (u.map nmCells)] H Kc := by
  refine ACall_intro Tryz.func23 rfl (by kernel_rfl) (by rw [Tryz.ntmps23]; simp) ?_; rw [Tryz.ntmps23]; simp only [frame0, Nat.reduceAdd]
  (refine AWp_seq_k (fun K hK => ?_); apply s_region; apply s_q; decide; rfl; (simp only [go_sem]; rfl); apply s_nil; simp only [AThen, ABlock]; refine hK _ _ ?_; clear hK K; (iterate 2 (refine AWp_seq_k (fun K hK => ?_))); apply s_region; (iterate 5 (apply s_q; decide; rfl; (simp only [go_sem]; rfl))); apply s_nil; simp only [AThen, ABlock]; refine hK _ _ ?_; clear hK K)
  refine cond_split (by simp only [go_sem]; try rfl) (fun hc => ?_) (fun hc => ?_)
  · simp at hc
  (apply AWp_skip; simp only [AThen, ABlock]; refine hK _ _ ?_; clear hK K; (iterate 2 (refine AWp_seq_k (fun K hK => ?_))); apply s_region; apply s_q; decide; rfl; (simp only [go_sem]; rfl); apply s_nil; simp only [AThen, ABlock]; refine hK _ _ ?_; clear hK K; apply AWp_block)
  refine AWp_loop_s (σ := Nat) [0, 1, 5] (fun i => [.sl false (u.map nmCells), .sl false (u.map nmCells), .v (.int .i64 i)]) (fun _ => H) (fun i => u.length - i) (fun i => i ≤ u.length) 0 (Nat.zero_le _) rfl rfl (fun i hi => ?_)
  simp only [List.zip_cons_cons, List.zip_nil_right]
  ((iterate 2 (refine AWp_seq_k (fun K hK => ?_))); apply s_region; (iterate 4 (apply s_q; decide; rfl; (simp only [go_sem]; rfl))); apply s_nil; simp only [AThen, ABlock]; refine hK _ _ ?_; clear hK K)
  refine cond_split (by simp only [go_sem]; try rfl) (fun hd => ?_) (fun hd => ?_)
  · have hlt : i < u.length := by simpa using hd
    obtain ⟨x, hx⟩ := gete hlt
    have hgx := nm_at hx
    (apply AWp_skip; simp only [AThen, ABlock]; refine hK _ _ ?_; clear hK K; refine AWp_seq_k (fun K hK => ?_); apply AWp_block; refine AWp_seq_k (fun K hK => ?_))
    apply AWp_drawA [0, 1, 2, 3, 4, 5, 6, 7, 8] [] 0 (by exact mixed); kernel_rfl; (simp only [go_sem]; rfl); (simp only [go_sem]; rfl)
    ((iterate 9 (apply e_q; decide; (simp only [go_sem, hgx, eq_named]; rfl))); apply e_nil; apply t_nil; simp only [AThen, ABlock]; refine hK _ _ ?_; clear hK K)
    refine cond_split (by simp only [go_sem]; try rfl) (fun hq => ?_) (fun hq => ?_)
    · simp at hq
    · (apply AWp_skip; simp only [AThen, ABlock]; refine hK _ _ ?_; clear hK K; apply s_region; (iterate 3 (apply s_q; decide; rfl; (simp only [go_sem]; rfl))); apply s_nil; simp only [AThen, ABlock])
      refine ⟨i + 1, by omega, by omega, ?_, by trivial⟩
      simp only [getAll, List.map_cons, List.map_nil, AFr.get, reduceIte, Nat.reduceEqDiff]
      rw [wrapS hlt (by omega)]; try rfl
  · (apply AWp_exit; simp only [AThen, ABlock, reduceIte, Nat.reduceEqDiff]; clear hK K; refine hK _ _ ?_; clear hK K; refine AWp_seq_k (fun K hK => ?_); apply s_region; apply s_q; decide; rfl; (simp only [go_sem]; rfl); apply s_nil; simp only [AThen, ABlock]; refine hK _ _ ?_; clear hK K; apply AWp_ret)
    exact h
theorem rSameSelf_c (l : Lv) (hl : l.Len) (H : AHeap) (Kc : AV → AHeap → Prop) (h : Kc (.v (.bool true)) H) : ACall X 8 [.agg l.cells, .agg l.cells] H Kc := by
  refine ACall.drop ?_
  rw [Lv.cells]
  refine ACall_intro Tryz.func8 rfl (by kernel_rfl) (by rw [Tryz.ntmps8]; simp) ?_; rw [Tryz.ntmps8]; simp only [frame0, Nat.reduceAdd]
  refine AWp_seq_k (fun K hK => ?_); apply s_region
  apply s_box; decide; exact (by simp only [go_sem]; try rfl); exact (by simp only [go_sem]; try rfl); intro p2 hp2
  apply s_box; decide; exact (by simp only [go_sem]; try rfl); exact (by simp only [go_sem]; try rfl); intro p3 hp3
  (apply s_q; decide; rfl; (simp only [go_sem]; rfl); apply s_nil; simp only [AThen, ABlock]; refine hK _ _ ?_; clear hK K; refine AWp_seq_k (fun K hK => ?_))
  have e2 := get_fresh (AHeap.get_put_same p2 (lvbox l) H) hp3 (x := lvbox l)
  have e3 := AHeap.get_put_same p3 (lvbox l) (H.put p2 (lvbox l))
  have hE := (Ext.fresh hp2 (o := lvbox l)).put hp3 (ob := lvbox l)
  generalize (H.put p2 (lvbox l)).put p3 (lvbox l) = M at e2 e3 hE ⊢
  apply AWp_drawA [0, 1, 2, 3, 4, 5] [] 0 (by exact mixed); kernel_rfl; (simp only [go_sem]; rfl); (simp only [go_sem]; rfl)
  (apply e_q; decide; (simp only [go_sem, e2, e3]; rfl); apply e_call; decide; (simp only [go_sem, e2, e3]; rfl); (simp only [go_sem, e2, e3]; rfl); (refine ACall.args_eq (bs := [.agg l.cells]) ?_ ?_; (focus (rw [Lv.cells]; done)); apply rnumbers_c l; exact ⟨rfl, rfl⟩); apply e_q; decide; (simp only [go_sem, e2, e3]; rfl); apply e_call; decide; (simp only [go_sem, e2, e3]; rfl); (simp only [go_sem, e2, e3]; rfl); (refine ACall.args_eq (bs := [.agg l.cells]) ?_ ?_; (focus (rw [Lv.cells]; done)); apply rnumbers_c l; exact ⟨rfl, rfl⟩); (iterate 2 (apply e_q; decide; (simp only [go_sem, e2, e3]; rfl))); apply e_nil; apply t_nil; simp only [AThen, ABlock]; refine hK _ _ ?_; clear hK K; (iterate 2 (refine AWp_seq_k (fun K hK => ?_))); apply s_region; apply s_q; decide; rfl; (simp only [go_sem, e2, e3]; rfl); apply s_nil; simp only [AThen, ABlock]; refine hK _ _ ?_; clear hK K; apply AWp_block)
  have l7 : (l.nums.map i64Cells).length = 7 := rfl
  refine AWp_loop_s (σ := Nat) [2, 3, 5, 6, 7] (fun i => [ptrTo p2, ptrTo p3, .sl true (l.nums.map i64Cells), .sl true (l.nums.map i64Cells), .v (.int .i64 i)]) (fun _ => M) (fun i => 7 - i) (fun i => i ≤ 7) 0 (by omega) rfl rfl (fun i hi => ?_)
  simp only [List.zip_cons_cons, List.zip_nil_right]
  ((iterate 2 (refine AWp_seq_k (fun K hK => ?_))); apply s_region; (iterate 4 (apply s_q; decide; rfl; (simp only [go_sem, l7]; rfl))); apply s_nil; simp only [AThen, ABlock]; refine hK _ _ ?_; clear hK K)
  refine cond_split (by simp only [go_sem]; try rfl) (fun hd => ?_) (fun hd => ?_)
  · have hd' : (i : Int) < 7 := by simpa using hd
    have hlt : i < 7 := by omega
    obtain ⟨x, hx⟩ := gete (l := l.nums) (i := i) hlt
    have hgx := i64_at hx
    (apply AWp_skip; simp only [AThen, ABlock]; refine hK _ _ ?_; clear hK K; refine AWp_seq_k (fun K hK => ?_); apply AWp_block; refine AWp_seq_k (fun K hK => ?_))
    apply AWp_drawA [0, 1, 2, 3, 4, 5, 6, 7, 8] [] 0 (by exact mixed); kernel_rfl; (simp only [go_sem]; rfl); (simp only [go_sem]; rfl)
    ((iterate 9 (apply e_q; decide; (simp only [go_sem, hgx]; rfl))); apply e_nil; apply t_nil; simp only [AThen, ABlock]; refine hK _ _ ?_; clear hK K)
    refine cond_split (by simp only [go_sem]; try rfl) (fun hq => ?_) (fun hq => ?_)
    · simp at hq
    · (apply AWp_skip; simp only [AThen, ABlock]; refine hK _ _ ?_; clear hK K; apply s_region; (iterate 3 (apply s_q; decide; rfl; (simp only [go_sem]; rfl))); apply s_nil; simp only [AThen, ABlock])
      refine ⟨i + 1, by omega, by omega, ?_, by trivial⟩
      simp only [getAll, List.map_cons, List.map_nil, AFr.get, reduceIte, Nat.reduceEqDiff]
      rw [wrapS hlt (by omega)]; try rfl
  · (apply AWp_exit; simp only [AThen, ABlock, reduceIte, Nat.reduceEqDiff]; clear hK K; refine hK _ _ ?_; clear hK K; refine AWp_seq_k (fun K hK => ?_); apply s_region; (iterate 4 (apply s_q; decide; rfl; (simp only [go_sem, e2, e3]; rfl))); apply s_call; decide; (simp only [go_sem, e2, e3]; rfl); (simp only [go_sem, e2, e3]; rfl); apply rsameSelf_c l.byUser hl.1; apply s_q; decide; rfl; (simp only [go_sem, e2, e3]; rfl); (iterate 4 (apply s_spec; decide; rfl; rfl; (simp only [go_sem, e2, e3]; rfl); (simp only [go_sem, e2, e3]; rfl); (simp only [go_sem, e2, e3]; rfl); (simp only [go_sem, e2, e3]; rfl); trivial)); apply s_gpure; decide; (simp only [go_sem, e2, e3]; rfl); (simp only [go_sem, e2, e3]; rfl); (simp only [go_sem, e2, e3]; rfl); trivial; (simp only [go_sem, e2, e3]; rfl); (simp only [go_sem, e2, e3]; rfl); (apply rsameSelf_c l.byType hl.2; exact ⟨rfl, rfl⟩); apply s_pick; decide; (simp only [go_sem, e2, e3]; rfl); (simp only [go_sem, e2, e3]; rfl); (simp only [go_sem, e2, e3]; rfl); (simp only [go_sem, e2, e3]; rfl); (simp only [go_sem, e2, e3]; rfl); (simp only [go_sem, e2, e3]; rfl); trivial; trivial; trivial; apply s_q; decide; rfl; (simp only [go_sem, e2, e3]; rfl); apply s_nil; simp only [AThen, ABlock]; refine hK _ _ ?_; clear hK K; apply AWp_ret)
    refine end_ret (av := .v (.bool true)) (by show resAV X.P _ _ [.tmp 4] = _; simp only [go_sem]; try rfl) ⟨H, hE, h⟩
theorem start_len (s : List UInt8) : (lvStart s).Len := by simp [lvStart, Lv.Len]
theorem start_user (s : List UInt8) : (lvStart s).user s = 100 := by simp [lvStart, Lv.user, fndL]
end Go.Proofs.YtniaafncmnilgaaGreatDoor
