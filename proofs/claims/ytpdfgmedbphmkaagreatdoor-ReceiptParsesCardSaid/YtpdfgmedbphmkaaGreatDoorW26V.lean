/-
  The document's content, and its Put: contracts.
-/
import Derived.Test.YtpdfgmedbphmkaaGreatDoorW26U
import Derived.Test.YtpdfgmedbphmkaaGreatDoorW26T
set_option linter.unusedSimpArgs false
set_option linter.unusedVariables false
set_option maxRecDepth 100000
namespace Go.Proofs.YtpdfgmedbphmkaaGreatDoor
open Go Go.AL
attribute [local irreducible] AOps AWp SOps AE AT ACall AApp

theorem rcontent_c (p : Nat) (t : Bool) (L : List Mark) (hl : L.length ≤ 100000) (H : AHeap) (hB : RB H p t L) (Kc : AV → AHeap → Prop)
    (h : Kc (.agg (contentJ L).cells) H) : ACall X 21 [.v (.pointer (some ⟨p, 0, none⟩))] H Kc := by
  refine ACall.drop (ACall.loose ?_)
  refine ACall_intro Tryz.func21 rfl (by kernel_rfl) (by rw [Tryz.ntmps21]; simp) ?_; rw [Tryz.ntmps21]; simp only [frame0, Nat.reduceAdd]
  (refine AWp_seq_k (fun K hK => ?_); apply s_region; apply s_alloc; decide; exact zc_25; intro b hb; apply s_nil; simp only [AThen, ABlock]; refine hK _ _ ?_; clear hK K; refine AWp_seq_k (fun K hK => ?_); apply s_region; apply s_q; decide; rfl; (simp only [go_sem]; rfl); apply s_alloc; decide; exact zc_25; intro b hb; apply s_store; (simp only [go_sem]; rfl); (simp only [go_sem]; rfl); (simp only [go_sem]; rfl); apply s_nil; simp only [AThen, ABlock]; refine hK _ _ ?_; clear hK K; (iterate 2 (refine AWp_seq_k (fun K hK => ?_))); apply s_region; apply s_q; decide; rfl; (simp only [go_sem]; rfl); apply s_nil; simp only [AThen, ABlock]; refine hK _ _ ?_; clear hK K; apply AWp_block)
  obtain ⟨b3, rfl⟩ : ∃ b3, b3 = b := ⟨_, rfl⟩
  have hb3 := hb
  clear hb
  obtain ⟨b2, rfl⟩ : ∃ b2, b2 = b := ⟨_, rfl⟩
  have hb2 := hb
  clear hb
  have hE3 : Ext H ((H.put b2 (.box 25 [.v (.int .i64 0), .v (.int .i64 0), .s [], .sl true [], .sl true []])).put b3 (.box 25 [.v (.int .i64 5), .v (.int .i64 0), .s [], .sl true [], .sl true []])) := Ext.put (Ext.fresh hb2) hb3
  have hg2 := get_fresh (x := .box 25 [.v (.int .i64 5), .v (.int .i64 0), .s [], .sl true [], .sl true []]) (AHeap.get_put_same b2 (.box 25 [.v (.int .i64 0), .v (.int .i64 0), .s [], .sl true [], .sl true []]) H) hb3
  refine AWp_loop_s (σ := Nat × Bool × Bool × AHeap) [0, 2, 3, 4] (fun s => [.v (.pointer (some ⟨p, 0, none⟩)), ptrTo b2, ptrTo b3, .v (.int .i64 s.1)]) (fun s => s.2.2.2) (fun s => L.length - s.1)
    (fun s => s.1 ≤ L.length ∧ Ext H s.2.2.2 ∧ s.2.2.2.get b2 = some (.box 25 [.v (.int .i64 0), .v (.int .i64 0), .s [], .sl true [], .sl true []]) ∧ s.2.2.2.get b3 = some (.box 25 [.v (.int .i64 5), .v (.int .i64 0), .s [], .sl s.2.1 (((L.take s.1).map Mark.user).map strCells), .sl s.2.2.1 (((L.take s.1).map markJ).map J.cells)]))
    (0, true, true, _) ⟨Nat.zero_le _, hE3, hg2, AHeap.get_put_same _ _ _⟩ rfl rfl (fun s hs => ?_)
  obtain ⟨i, x, y, M⟩ := s
  obtain ⟨hi, hE, h2, h3⟩ := hs
  simp only [List.zip_cons_cons, List.zip_nil_right] at hi hE h2 h3 ⊢
  have hp : M.get p = some (.box 38 [.sl t (L.map Mark.cells)]) := hE p _ hB
  ((iterate 2 (refine AWp_seq_k (fun K hK => ?_))); apply s_region; (iterate 7 (apply s_q; decide; rfl; (simp only [go_sem, hp]; rfl))); apply s_nil; simp only [AThen, ABlock]; refine hK _ _ ?_; clear hK K)
  refine cond_split (by simp only [go_sem]; try rfl) (fun hd => ?_) (fun hd => ?_)
  · have hlt : i < L.length := by simpa using hd
    obtain ⟨m, hm⟩ : ∃ a, L[i]? = some a := ⟨_, List.getElem?_eq_getElem hlt⟩
    have hg : (L.map Mark.cells)[i]? = some [.s m.user, .v (.int .i64 m.at_), .v (.int .i64 m.ts)] := by rw [List.getElem?_map, hm]; rfl
    have hjA : (J.mk 5 0 [] [] []).keys.length ≤ 1000000 ∧ (J.mk 5 0 [] [] []).list.length ≤ 1000000 := by simp [J.keys, J.list]
    have hjB : (J.mk 5 0 [] [[97, 116]] [numJ m.at_]).keys.length ≤ 1000000 ∧ (J.mk 5 0 [] [[97, 116]] [numJ m.at_]).list.length ≤ 1000000 := by simp [J.keys, J.list]
    have hjC : (contentJ (L.take i)).keys.length ≤ 1000000 ∧ (contentJ (L.take i)).list.length ≤ 1000000 := by simp [J.keys, J.list, contentJ]; omega
    (apply AWp_skip; simp only [AThen, ABlock]; refine hK _ _ ?_; clear hK K; refine AWp_seq_k (fun K hK => ?_); apply AWp_block; refine AWp_seq_k (fun K hK => ?_); apply s_region; (iterate 9 (apply s_q; decide; rfl; (simp only [go_sem, hp, hg, J.cells]; rfl))); apply s_call; decide; (simp only [go_sem, hp, hg, J.cells]; rfl); (simp only [go_sem, hp, hg, J.cells]; rfl); apply num_c; apply s_call; decide; (simp only [go_sem, hp, hg, J.cells]; rfl); (simp only [go_sem, hp, hg, J.cells]; rfl); refine ACall.loosen ?_; refine ACall.args_eq (bs := [.agg (J.mk 5 0 [] [] []).cells, .s [97, 116], .agg (numJ m.at_).cells]) ?_ ?_; (focus (simp [AV.loosens, AV.loosen, AV.loosenss, J.loosen, J.loosens, J.loosenss, J.cells, J.cellss, loosen_strs, strCells]; done)); apply jput_c _ _ _ hjA; apply s_alloc; decide; exact zc_25; intro b hb; apply s_store; (simp only [go_sem, hp, hg, J.cells]; rfl); (simp only [go_sem, hp, hg, J.cells]; rfl); (simp only [go_sem, hp, hg, J.cells]; rfl); apply s_nil; simp only [AThen, ABlock]; refine hK _ _ ?_; clear hK K)
    obtain ⟨b5, rfl⟩ : ∃ b5, b5 = b := ⟨_, rfl⟩
    have hb5 := hb
    clear hb
    change AWp X _ _ _ _ (M.put b5 (.box 25 [.v (.int .i64 5), .v (.int .i64 0), .s [], .sl false ([[97, 116]].map strCells), .sl false ([numJ m.at_].map J.cells)]))
    have hE5 := Ext.put (ob := .box 25 [.v (.int .i64 5), .v (.int .i64 0), .s [], .sl false ([[97, 116]].map strCells), .sl false ([numJ m.at_].map J.cells)]) hE hb5
    have h25 := get_fresh (x := .box 25 [.v (.int .i64 5), .v (.int .i64 0), .s [], .sl false ([[97, 116]].map strCells), .sl false ([numJ m.at_].map J.cells)]) h2 hb5
    have h35 := get_fresh (x := .box 25 [.v (.int .i64 5), .v (.int .i64 0), .s [], .sl false ([[97, 116]].map strCells), .sl false ([numJ m.at_].map J.cells)]) h3 hb5
    have hp5 := get_fresh (x := .box 25 [.v (.int .i64 5), .v (.int .i64 0), .s [], .sl false ([[97, 116]].map strCells), .sl false ([numJ m.at_].map J.cells)]) hp hb5
    have h55 := AHeap.get_put_same b5 (.box 25 [.v (.int .i64 5), .v (.int .i64 0), .s [], .sl false ([[97, 116]].map strCells), .sl false ([numJ m.at_].map J.cells)]) M
    have h32 : b2 ≠ b3 := by rintro rfl; rw [h2] at h3; cases h3
    have hHb3 : H.get b3 = none := none_fresh hb3
    generalize M.put b5 (.box 25 [.v (.int .i64 5), .v (.int .i64 0), .s [], .sl false ([[97, 116]].map strCells), .sl false ([numJ m.at_].map J.cells)]) = M5 at hE5 h25 h35 hp5 h55 ⊢
    apply AWp_drawA [0, 1, 2, 3, 4, 5, 6, 7, 8, 9, 10, 11, 12, 13, 14, 15, 16, 17, 18, 19, 20] [21] 0 (by exact mixed); kernel_rfl; (simp only [go_sem]; rfl); (simp only [go_sem]; rfl)
    ((iterate 18 (apply e_q; decide; (simp only [go_sem, hp5, hg, h35, h55, J.cells]; rfl))); apply e_call; decide; (simp only [go_sem, hp5, hg, h35, h55, J.cells]; rfl); (simp only [go_sem, hp5, hg, h35, h55, J.cells]; rfl); (apply num_c; exact ⟨rfl, rfl⟩); apply e_call; decide; (simp only [go_sem, hp5, hg, h35, h55, J.cells]; rfl); (simp only [go_sem, hp5, hg, h35, h55, J.cells]; rfl); (refine ACall.loosen ?_; refine ACall.args_eq (bs := [.agg (J.mk 5 0 [] [[97, 116]] [numJ m.at_]).cells, .s [116, 115], .agg (numJ m.ts).cells]) ?_ ?_; (focus (simp [AV.loosens, AV.loosen, AV.loosenss, J.loosen, J.loosens, J.loosenss, J.cells, J.cellss, loosen_strs, strCells]; done)); apply jput_c _ _ _ hjB; exact ⟨rfl, rfl⟩); apply e_call; decide; (simp only [go_sem, hp5, hg, h35, h55, J.cells]; rfl); (simp only [go_sem, hp5, hg, h35, h55, J.cells]; rfl); (refine ACall.loosen ?_; refine ACall.args_eq (bs := [.agg (contentJ (L.take i)).cells, .s m.user, .agg (markJ m).cells]) ?_ ?_; (focus (rw [J.cells_eq (contentJ (L.take i))]; simp only [AV.loosens, AV.loosen, AV.loosenss, J.loosen, J.loosens, J.loosenss, loosen_strs]; rfl)); apply jput_c _ _ _ hjC; exact ⟨rfl, rfl⟩); apply e_nil; apply t_storex; (simp only [go_sem, hp5, hg, h35, h55, J.cells]; rfl); (simp only [go_sem, hp5, hg, h35, h55, J.cells]; rfl); (simp only [go_sem, hp5, hg, h35, h55, J.cells]; rfl); (first | (intro _; exact Ext.put (Ext.refl _) (by assumption)) | (intro h; exact absurd h (by decide)) | (intro _; exact Ext.put (by assumption) (by assumption))); apply t_nil; simp only [AThen, ABlock]; refine hK _ _ ?_; clear hK K; apply s_region; (iterate 3 (apply s_q; decide; rfl; (simp only [go_sem, hp5, hg, h35, h55, J.cells]; rfl))); apply s_nil; simp only [AThen, ABlock])
    have e1 : (L.take (i + 1)).map Mark.user = (L.take i).map Mark.user ++ [m.user] := by rw [List.take_add_one, hm]; simp
    have e2 : (L.take (i + 1)).map markJ = (L.take i).map markJ ++ [markJ m] := by rw [List.take_add_one, hm]; simp
    refine ⟨(i + 1, false, false, M5.put b3 (.box 25 [.v (.int .i64 5), .v (.int .i64 0), .s [], .sl false (((L.take (i + 1)).map Mark.user).map strCells), .sl false (((L.take (i + 1)).map markJ).map J.cells)])), by simp only; omega, ⟨by simp only; omega, Ext.over hE5 hHb3, get_other h25 h32, AHeap.get_put_same _ _ _⟩, ?_, ?_⟩
    · simp only [getAll, List.map_cons, List.map_nil, AFr.get, reduceIte, Nat.reduceEqDiff]
      rw [wrapS hlt (by omega)]; try rfl
    · simp only
      rw [e1, e2, ← J.cellss_eq]
      try rfl
  · have hge : L.length ≤ i := by simpa using hd
    (apply AWp_exit; simp only [AThen, ABlock, reduceIte, Nat.reduceEqDiff]; clear hK K; refine hK _ _ ?_; clear hK K; refine AWp_seq_k (fun K hK => ?_); apply s_region; apply s_q; decide; rfl; (simp only [go_sem, h3, h2]; rfl); apply s_store; (simp only [go_sem, h3, h2]; rfl); (simp only [go_sem, h3, h2]; rfl); (simp only [go_sem, h3, h2]; rfl); apply s_nil; simp only [AThen, ABlock]; refine hK _ _ ?_; clear hK K; apply AWp_ret)
    rw [List.take_of_length_le hge] at h3 ⊢
    have hHb2 : H.get b2 = none := hb2
    refine end_ret (av := .agg [.v (.int .i64 5), .v (.int .i64 0), .s [], .sl x ((L.map Mark.user).map strCells), .sl y ((L.map markJ).map J.cells)]) (by show resAV X.P _ _ [.cell 2 25] = _; simp only [go_sem]; try rfl) ⟨H, Ext.over hE hHb2, ?_⟩
    simp only [contentJ, J.cells_eq, J.kind, J.int, J.text, J.keys, J.list] at h
    simp only [AV.loosen, AV.loosens, loosen_strs, J.loosenss]
    exact h
end Go.Proofs.YtpdfgmedbphmkaaGreatDoor
