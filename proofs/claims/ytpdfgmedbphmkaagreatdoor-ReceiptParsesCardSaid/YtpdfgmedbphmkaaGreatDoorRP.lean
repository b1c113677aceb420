/-
  The document's Num and Put. Contracts.
-/
import Derived.Test.YtpdfgmedbphmkaaGreatDoorCH
set_option linter.unusedSimpArgs false
set_option linter.unusedVariables false
set_option maxRecDepth 100000
namespace Go.Proofs.YtpdfgmedbphmkaaGreatDoor
open Go Go.AL
attribute [local irreducible] AOps AWp SOps AE AT ACall AApp

def numJ (n : Int) : J := .mk 2 n [] [] []
theorem num_c (n : Int) (H : AHeap) (K : AV → AHeap → Prop) (h : K (.agg (numJ n).cells) H) : ACall X 37 [.v (.int .i64 n)] H K := by
  refine ACall.drop (ACall.loose ?_)
  refine ACall_intro Tryz.func37 rfl (by kernel_rfl) (by rw [Tryz.ntmps37]; simp) ?_; rw [Tryz.ntmps37]; simp only [frame0, Nat.reduceAdd]
  (refine AWp_seq_k (fun K hK => ?_); apply s_region; apply s_alloc; decide; exact zc_25; intro b hb; apply s_nil; simp only [AThen, ABlock]; refine hK _ _ ?_; clear hK K; refine AWp_seq_k (fun K hK => ?_); apply s_region; (iterate 2 (apply s_q; decide; rfl; (simp only [go_sem]; rfl))); apply s_store; (simp only [go_sem]; rfl); (simp only [go_sem]; rfl); (simp only [go_sem]; rfl); apply s_nil; simp only [AThen, ABlock]; refine hK _ _ ?_; clear hK K; apply AWp_ret)
  refine end_ret (av := .agg [.v (.int .i64 2), .v (.int .i64 n), .s [], .sl true [], .sl true []]) (by show resAV X.P _ _ [.cell 2 25] = _; simp only [go_sem]; try rfl) ⟨H, Ext.fresh (by assumption), ?_⟩
  exact h
theorem jput_c (j v : J) (k : List UInt8) (hj : j.keys.length ≤ 1000000 ∧ j.list.length ≤ 1000000) (H : AHeap) (Kc : AV → AHeap → Prop) (h : Kc (.agg (J.mk 5 0 [] (j.keys ++ [k]) (j.list ++ [v])).cells) H) : ACall X 36 [.agg j.cells, .s k, .agg v.cells] H Kc := by
  refine ACall.post ?_
  have hv1 := J.cells_eq v
  rw [J.cells_eq j, J.cells_eq v]
  obtain ⟨jk, ji, jt, jks, jl⟩ := j
  obtain ⟨vk, vi, vt, vks, vl⟩ := v
  simp only [J.kind, J.int, J.text, J.keys, J.list] at hj hv1 h ⊢
  refine ACall_intro Tryz.func36 rfl (by kernel_rfl) (by rw [Tryz.ntmps36]; simp) ?_; rw [Tryz.ntmps36]; simp only [frame0, Nat.reduceAdd]
  (refine AWp_seq_k (fun K hK => ?_); apply s_region; (iterate 2 (apply s_box; decide; (simp only [go_sem]; rfl); (simp only [go_sem]; rfl); intro b hb)); apply s_alloc; decide; exact zc_25; intro b hb; apply s_nil; simp only [AThen, ABlock]; refine hK _ _ ?_; clear hK K; refine AWp_seq_k (fun K hK => ?_))
  rename_i b3 hb3 b5 hb5
  obtain ⟨b6, rfl⟩ : ∃ b6, b6 = b := ⟨_, rfl⟩
  have hb6 := hb
  clear hb
  have g3 := get_fresh (x := .box 25 [.v (.int .i64 0), .v (.int .i64 0), .s [], .sl true [], .sl true []]) (get_fresh (x := .box 25 [.v (.int .i64 vk), .v (.int .i64 vi), .s vt, .sl false (vks.map strCells), .sl false (vl.map J.cells)]) (AHeap.get_put_same b3 (.box 25 [.v (.int .i64 jk), .v (.int .i64 ji), .s jt, .sl false (jks.map strCells), .sl false (jl.map J.cells)]) H) hb5) hb6
  have g5 := get_fresh (x := .box 25 [.v (.int .i64 0), .v (.int .i64 0), .s [], .sl true [], .sl true []]) (AHeap.get_put_same b5 (.box 25 [.v (.int .i64 vk), .v (.int .i64 vi), .s vt, .sl false (vks.map strCells), .sl false (vl.map J.cells)]) (H.put b3 (.box 25 [.v (.int .i64 jk), .v (.int .i64 ji), .s jt, .sl false (jks.map strCells), .sl false (jl.map J.cells)]))) hb6
  have g6 := AHeap.get_put_same b6 (.box 25 [.v (.int .i64 0), .v (.int .i64 0), .s [], .sl true [], .sl true []]) ((H.put b3 (.box 25 [.v (.int .i64 jk), .v (.int .i64 ji), .s jt, .sl false (jks.map strCells), .sl false (jl.map J.cells)])).put b5 (.box 25 [.v (.int .i64 vk), .v (.int .i64 vi), .s vt, .sl false (vks.map strCells), .sl false (vl.map J.cells)]))
  have hHM := Ext.put (ob := .box 25 [.v (.int .i64 0), .v (.int .i64 0), .s [], .sl true [], .sl true []]) (Ext.put (ob := .box 25 [.v (.int .i64 vk), .v (.int .i64 vi), .s vt, .sl false (vks.map strCells), .sl false (vl.map J.cells)]) (Ext.fresh (o := .box 25 [.v (.int .i64 jk), .v (.int .i64 ji), .s jt, .sl false (jks.map strCells), .sl false (jl.map J.cells)]) hb3) hb5) hb6
  have hn6 := none_fresh (none_fresh hb6)
  generalize ((H.put b3 (.box 25 [.v (.int .i64 jk), .v (.int .i64 ji), .s jt, .sl false (jks.map strCells), .sl false (jl.map J.cells)])).put b5 (.box 25 [.v (.int .i64 vk), .v (.int .i64 vi), .s vt, .sl false (vks.map strCells), .sl false (vl.map J.cells)])).put b6 (.box 25 [.v (.int .i64 0), .v (.int .i64 0), .s [], .sl true [], .sl true []]) = M at g3 g5 g6 hHM ⊢
  apply AWp_drawA [0, 1, 2, 4, 5, 7, 8, 9, 11, 12] [3, 6, 10, 13, 14, 15] 3 (by exact mixed); kernel_rfl; (simp only [go_sem]; rfl); (simp only [go_sem]; rfl)
  (apply e_lit; decide; exact el_22; (simp only [go_sem, g3, g5]; rfl); (simp only [go_sem, g3, g5]; rfl); decide; (iterate 3 (apply e_q; decide; (simp only [go_sem, g3, g5]; rfl))); apply e_lit; decide; exact el_22; (simp only [go_sem, g3, g5]; rfl); (simp only [go_sem, g3, g5]; rfl); decide; apply e_lit; decide; exact el_23; (simp only [go_sem, g3, g5]; rfl); (simp only [go_sem, g3, g5]; rfl); decide; (iterate 3 (apply e_q; decide; (simp only [go_sem, g3, g5]; rfl))); apply e_lit; decide; exact el_23; (simp only [go_sem, g3, g5]; rfl); (simp only [go_sem, g3, g5]; rfl); decide; apply e_nil; apply t_append; decide; (simp only [go_sem, g3, g5]; rfl); (simp only [go_sem, g3, g5]; rfl); apply AApp_at el_22 (Ext.refl M) (RowAt.nil 9 1 M M) (l := []) (m := jks) (g := strCells) rfl rfl tk_22 str_one (by simp; omega) (by simp; omega); intro s1 L1 r1 x1 k1; refine ⟨by (intro _; assumption), ?_⟩)
  (apply t_append; decide; (simp only [go_sem, g3, g5]; rfl); (simp only [go_sem, g3, g5]; rfl); apply AApp_at el_22 x1 r1 (l := [] ++ jks) (m := [k]) (g := strCells) rfl rfl tk_22 str_one (by simp; omega) (by simp; omega); intro s2 L2 r2 x2 k2; refine ⟨by (intro _; assumption), ?_⟩)
  (apply t_append; decide; (simp only [go_sem, g3, g5]; rfl); (simp only [go_sem, g3, g5]; rfl); apply AApp_at el_23 x2 (RowAt.nil 25 5 M L2) (l := []) (m := jl) (g := J.cells) rfl rfl tk_23 J.one (by simp; omega) (by simp; omega); intro s3 L3 r3 x3 k3; refine ⟨by (intro _; assumption), ?_⟩)
  (apply t_append; decide; (simp only [go_sem, g3, g5]; rfl); (simp only [go_sem, g3, g5]; rfl); apply AApp_at el_23 x3 r3 (l := [] ++ jl) (m := [J.mk vk vi vt vks vl]) (g := J.cells) rfl (by simp [hv1]) tk_23 J.one (by simp; omega) (by simp; omega); intro s4 L4 r4 x4 k4; refine ⟨by (intro _; assumption), ?_⟩)
  have q2 := k4.row (by decide) (k3.row (by decide) r2)
  obtain ⟨bk, hk1, rfl, hk2⟩ := q2.row (by simp)
  obtain ⟨bl, hl1, rfl, hl2⟩ := r4.row (by simp)
  have g9 := x4 b6 _ g6
  (apply t_q; decide; (simp only [go_sem, g9]; rfl); (intro _; assumption); apply t_storex; (simp only [go_sem, g9]; rfl); (simp only [go_sem, g9]; rfl); (simp only [go_sem, g9]; rfl); (first | (intro _; exact Ext.put (Ext.refl _) (by assumption)) | (intro h; exact absurd h (by decide)) | (intro _; exact Ext.put (by assumption) (by assumption))); apply t_nil; simp only [AThen, ABlock]; refine hK _ _ ?_; clear hK K; apply AWp_ret)
  have e1 : (([] ++ jks ++ [k]).map strCells).length = (jks ++ [k]).length := by simp
  have e2 : (([] ++ jl ++ [J.mk vk vi vt vks vl]).map J.cells).length = (jl ++ [J.mk vk vi vt vks vl]).length := by simp
  have q3 : RowAt 9 1 H (L4.put b6 (.box 25 [.v (.int .i64 5), .v (.int .i64 0), .s [], .row bk 1 (jks ++ [k]).length, .row bl 5 (jl ++ [J.mk vk vi vt vks vl]).length])) _ _ := (q2.base hHM).put g9 (fun _ _ _ h => by cases h)
  have r5 : RowAt 25 5 H (L4.put b6 (.box 25 [.v (.int .i64 5), .v (.int .i64 0), .s [], .row bk 1 (jks ++ [k]).length, .row bl 5 (jl ++ [J.mk vk vi vt vks vl]).length])) _ _ := (r4.base hHM).put g9 (fun _ _ _ h => by cases h)
  have x5 : Ext H (L4.put b6 (.box 25 [.v (.int .i64 5), .v (.int .i64 0), .s [], .row bk 1 (jks ++ [k]).length, .row bl 5 (jl ++ [J.mk vk vi vt vks vl]).length])) := Ext.over (Ext.trans hHM x4) hn6
  have g10 := AHeap.get_put_same b6 (.box 25 [.v (.int .i64 5), .v (.int .i64 0), .s [], .row bk 1 (jks ++ [k]).length, .row bl 5 (jl ++ [J.mk vk vi vt vks vl]).length]) L4
  rw [e1] at q3
  rw [e2] at r5
  refine end_ret (av := .agg [.v (.int .i64 5), .v (.int .i64 0), .s [], .row bk 1 (jks ++ [k]).length, .row bl 5 (jl ++ [J.mk vk vi vt vks vl]).length]) (by show resAV X.P _ _ [.cell 6 25] = _; simp only [go_sem]; try rfl) ⟨_, H, snap_two (pre := [.v (.int .i64 5), .v (.int .i64 0), .s []]) q3 r5 x5 (by decide) (fun _ _ _ => rfl) (fun b sz es => snap_strs b sz es _), ?_⟩
  simp only [J.cells_eq, J.kind, J.int, J.text, J.keys, J.list] at h
  exact h

end Go.Proofs.YtpdfgmedbphmkaaGreatDoor
