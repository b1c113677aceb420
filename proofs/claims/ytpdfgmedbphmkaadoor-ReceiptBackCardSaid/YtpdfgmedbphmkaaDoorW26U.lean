/-
  A board's content: contracts.
-/
import Derived.Test.YtpdfgmedbphmkaaDoorW26O
import Derived.Test.YtpdfgmedbphmkaaDoorRP
set_option linter.unusedSimpArgs false
set_option linter.unusedVariables false
set_option maxRecDepth 100000
namespace Go.Proofs.YtpdfgmedbphmkaaDoor
open Go Go.AL
attribute [local irreducible] AOps AWp SOps AE AT ACall AApp

theorem number_c (n : Int) (H : AHeap) (K : AV → AHeap → Prop) (h : K (.agg (numJ n).cells) H) : ACall X 19 [.v (.int .i64 n)] H K := by
  refine ACall.drop (ACall.loose ?_)
  refine ACall_intro Tryd.func19 rfl (by kernel_rfl) (by rw [Tryd.ntmps19]; simp) ?_; rw [Tryd.ntmps19]; simp only [frame0, Nat.reduceAdd]
  (refine AWp_seq_k (fun K hK => ?_); apply s_region; apply s_alloc; decide; exact zc_34; intro b hb; apply s_nil; simp only [AThen, ABlock]; refine hK _ _ ?_; clear hK K; refine AWp_seq_k (fun K hK => ?_); apply s_region; (iterate 2 (apply s_q; decide; rfl; (simp only [go_sem]; rfl))); apply s_store; (simp only [go_sem]; rfl); (simp only [go_sem]; rfl); (simp only [go_sem]; rfl); apply s_nil; simp only [AThen, ABlock]; refine hK _ _ ?_; clear hK K; apply AWp_ret)
  refine end_ret (av := .agg [.v (.int .i64 2), .v (.int .i64 n), .s [], .sl true [], .sl true []]) (by show resAV X.P _ _ [.cell 2 34] = _; simp only [go_sem]; try rfl) ⟨H, Ext.fresh (by assumption), ?_⟩
  exact h
def markJ (m : Mark) : J := .mk 5 0 [] [[97, 116], [116, 115]] [numJ m.at_, numJ m.ts]
def contentJ (l : List Mark) : J := .mk 5 0 [] (l.map Mark.user) (l.map markJ)
theorem content_c (p q : Nat) (ms : List (List UInt8 × Mark)) (hbd : Bd ms) (H : AHeap) (hB : IsBoard H p q ms) (Kc : AV → AHeap → Prop)
    (h : Kc (.agg (contentJ (allOf ms)).cells) H) : ACall X 7 [.v (.pointer (some ⟨p, 0, none⟩))] H Kc := by
  obtain ⟨l, hl⟩ : ∃ l, allOf ms = l := ⟨_, rfl⟩
  have hll : l.length ≤ 1000000 := by rw [← hl, allOf_len]; exact hbd.1
  rw [hl] at h
  refine ACall.post ?_
  refine ACall_intro Tryd.func7 rfl (by kernel_rfl) (by rw [Tryd.ntmps7]; simp) ?_; rw [Tryd.ntmps7]; simp only [frame0, Nat.reduceAdd]
  (refine AWp_seq_k (fun K hK => ?_); apply s_region; apply s_alloc; decide; exact zc_34; intro b hb; apply s_nil; simp only [AThen, ABlock]; refine hK _ _ ?_; clear hK K; refine AWp_seq_k (fun K hK => ?_); apply s_region; apply s_q; decide; rfl; (simp only [go_sem]; rfl); apply s_alloc; decide; exact zc_34; intro b hb; apply s_store; (simp only [go_sem]; rfl); (simp only [go_sem]; rfl); (simp only [go_sem]; rfl); apply s_nil; simp only [AThen, ABlock]; refine hK _ _ ?_; clear hK K; (iterate 2 (refine AWp_seq_k (fun K hK => ?_))); apply s_region; apply s_q; decide; rfl; (simp only [go_sem]; rfl))
  rename_i b2 hb2 _ _
  obtain ⟨b3, rfl⟩ : ∃ b3, b3 = b := ⟨_, rfl⟩
  have hb3 := hb
  clear hb
  obtain ⟨E, hEd⟩ : ∃ E, H.put b2 (.box 34 [.v (.int .i64 0), .v (.int .i64 0), .s [], .sl true [], .sl true []]) = E := ⟨_, rfl⟩
  have hHE : Ext H E := by rw [← hEd]; exact Ext.fresh hb2
  have hE2 : E.get b2 = some (.box 34 [.v (.int .i64 0), .v (.int .i64 0), .s [], .sl true [], .sl true []]) := by rw [← hEd]; exact AHeap.get_put_same _ _ _
  rw [hEd] at hb3 ⊢
  have hBE := (hB.ext hHE).fresh (o := .box 34 [.v (.int .i64 5), .v (.int .i64 0), .s [], .sl true [], .sl true []]) hb3
  (apply s_call; decide; (simp only [go_sem]; rfl); (simp only [go_sem]; rfl); apply all_c p q ms hbd _ hBE; (iterate 2 (apply s_q; decide; rfl; (simp only [go_sem]; rfl))); apply s_nil; simp only [AThen, ABlock]; refine hK _ _ ?_; clear hK K; apply AWp_block)
  rw [hl]
  skip
  refine AWp_loop_s (σ := Nat × AV × AV × AHeap) [2, 3, 8, 9, 10] (fun s => [ptrTo b2, ptrTo b3, .sl false (l.map Mark.cells), .v (.int .i64 l.length), .v (.int .i64 s.1)]) (fun s => s.2.2.2) (fun s => l.length - s.1)
    (fun s => s.1 ≤ l.length ∧ Ext E s.2.2.2 ∧ s.2.2.2.get b3 = some (.box 34 [.v (.int .i64 5), .v (.int .i64 0), .s [], s.2.1, s.2.2.1]) ∧ RowAt 9 1 E s.2.2.2 (((l.take s.1).map Mark.user).map strCells) s.2.1 ∧ RowAt 34 5 E s.2.2.2 (((l.take s.1).map markJ).map J.cells) s.2.2.1)
    (0, .sl true [], .sl true [], _) ⟨Nat.zero_le _, Ext.fresh hb3, AHeap.get_put_same _ _ _, .inl ⟨rfl, rfl⟩, .inl ⟨rfl, rfl⟩⟩ rfl rfl (fun s hs => ?_)
  obtain ⟨i, a, c, L⟩ := s
  obtain ⟨hi, hE, hbx, hra, hrc⟩ := hs
  simp only [List.zip_cons_cons, List.zip_nil_right] at hi hE hbx hra hrc ⊢
  (refine AWp_seq_k (fun K hK => ?_); apply s_region; apply s_q; decide; rfl; (simp only [go_sem]; rfl); apply s_nil; simp only [AThen, ABlock]; refine hK _ _ ?_; clear hK K; refine AWp_seq_k (fun K hK => ?_))
  refine cond_split (by simp only [go_sem]; try rfl) (fun hd => ?_) (fun hd => ?_)
  · have hlt : i < l.length := by simpa using hd
    obtain ⟨m, hm⟩ : ∃ a, l[i]? = some a := ⟨_, List.getElem?_eq_getElem hlt⟩
    have hg : (l.map Mark.cells)[i]? = some [.s m.user, .v (.int .i64 m.at_), .v (.int .i64 m.ts)] := by rw [List.getElem?_map, hm]; rfl
    (apply AWp_skip; simp only [AThen, ABlock]; refine hK _ _ ?_; clear hK K; refine AWp_seq_k (fun K hK => ?_); apply AWp_block; refine AWp_seq_k (fun K hK => ?_); apply s_region; (iterate 2 (apply s_q; decide; rfl; (simp only [go_sem, hg]; rfl))); apply s_alloc; decide; exact zc_24; intro b hb; apply s_store; (simp only [go_sem, hg]; rfl); (simp only [go_sem, hg]; rfl); (simp only [go_sem, hg]; rfl); apply s_nil; simp only [AThen, ABlock]; refine hK _ _ ?_; clear hK K; refine AWp_seq_k (fun K hK => ?_); apply s_region; apply s_q; decide; rfl; (simp only [go_sem, hg]; rfl))
    obtain ⟨b5, rfl⟩ : ∃ b5, b5 = b := ⟨_, rfl⟩
    have hb5 := hb
    clear hb
    have hE5 : Ext E _ := Ext.trans hE (Ext.fresh (o := .box 24 [.s m.user, .v (.int .i64 m.at_), .v (.int .i64 m.ts)]) hb5)
    have hbx5 := get_fresh (x := .box 24 [.s m.user, .v (.int .i64 m.at_), .v (.int .i64 m.ts)]) hbx hb5
    have hra5 := hra.ext (Ext.fresh (o := .box 24 [.s m.user, .v (.int .i64 m.at_), .v (.int .i64 m.ts)]) hb5)
    have hrc5 := hrc.ext (Ext.fresh (o := .box 24 [.s m.user, .v (.int .i64 m.at_), .v (.int .i64 m.ts)]) hb5)
    have hm5 := AHeap.get_put_same b5 (.box 24 [.s m.user, .v (.int .i64 m.at_), .v (.int .i64 m.ts)]) L
    generalize L.put b5 (.box 24 [.s m.user, .v (.int .i64 m.at_), .v (.int .i64 m.ts)]) = L5 at hE5 hbx5 hra5 hrc5 hm5 ⊢
    ((iterate 3 (apply s_q; decide; rfl; (simp only [go_sem, hbx5, hm5]; rfl))); apply s_lit; decide; exact el_31; (simp only [go_sem, hbx5, hm5]; rfl); (simp only [go_sem, hbx5, hm5]; rfl); decide; apply s_append; decide; (simp only [go_sem, hbx5, hm5]; rfl); (simp only [go_sem, hbx5, hm5]; rfl); apply AApp_at el_31 hE5 hra5 (l := (l.take i).map Mark.user) (m := [m.user]) (g := strCells) rfl rfl tk_31 str_one (by simp; omega) (by simp; omega); intro s1 L1 hra1 hE1 hk1; apply s_q; decide; rfl; (simp only [go_sem, hbx5, hm5]; rfl))
    have hbx1 := hk1 b3 _ hbx5 (fun _ _ _ h => by cases h)
    have hm1 := hk1 b5 _ hm5 (fun _ _ _ h => by cases h)
    have hrc1 := hk1.row (by decide) hrc5
    obtain ⟨r1, hr1, rfl, hr1g⟩ := hra1.row (by simp)
    have hra1' : RowAt 9 1 E L1 _ _ := .inr ⟨r1, hr1, rfl, hr1g⟩
    (apply s_store; (simp only [go_sem, hbx1]; rfl); (simp only [go_sem, hbx1]; rfl); (simp only [go_sem, hbx1]; rfl); apply s_nil; simp only [AThen, ABlock]; refine hK _ _ ?_; clear hK K)
    have hb53 : b5 ≠ b3 := by rintro rfl; rw [hm1] at hbx1; cases hbx1
    have hra2 := hra1'.put (o' := .box 34 [.v (.int .i64 5), .v (.int .i64 0), .s [], .row r1 1 (((l.take i).map Mark.user ++ [m.user]).map strCells).length, c]) hbx1 (fun _ _ _ h => by cases h)
    have hrc2 := hrc1.put (o' := .box 34 [.v (.int .i64 5), .v (.int .i64 0), .s [], .row r1 1 (((l.take i).map Mark.user ++ [m.user]).map strCells).length, c]) hbx1 (fun _ _ _ h => by cases h)
    have hE2' := Ext.over (o := .box 34 [.v (.int .i64 5), .v (.int .i64 0), .s [], .row r1 1 (((l.take i).map Mark.user ++ [m.user]).map strCells).length, c]) hE1 hb3
    have hbx2 := AHeap.get_put_same b3 (.box 34 [.v (.int .i64 5), .v (.int .i64 0), .s [], .row r1 1 (((l.take i).map Mark.user ++ [m.user]).map strCells).length, c]) L1
    have hm2 := get_other (x := .box 34 [.v (.int .i64 5), .v (.int .i64 0), .s [], .row r1 1 (((l.take i).map Mark.user ++ [m.user]).map strCells).length, c]) hm1 hb53
    simp only [List.length_map] at hra2 hrc2 hE2' hbx2 hm2
    generalize L1.put b3 (.box 34 [.v (.int .i64 5), .v (.int .i64 0), .s [], .row r1 1 ((l.take i).map Mark.user ++ [m.user]).length, c]) = L2 at hra2 hrc2 hE2' hbx2 hm2 ⊢
    have hbx2s := less_get (e := 34) hbx2 (fun _ _ _ h => by cases h)
    have hm2s := less_get (e := 34) hm2 (fun _ _ _ h => by cases h)
    apply AWp_drawAH [0, 1, 2, 3, 4, 5, 6, 7, 8, 9, 10, 11, 13] [12, 14] 1 (less_ext 34 L2) (by exact mixed); kernel_rfl; (simp only [go_sem]; rfl); (simp only [go_sem]; rfl)
    ((iterate 2 (apply e_q; decide; (simp only [go_sem, hbx2s, hm2s]; rfl))); apply e_lit; decide; exact el_31; (simp only [go_sem, hbx2s, hm2s]; rfl); (simp only [go_sem, hbx2s, hm2s]; rfl); decide; (iterate 2 (apply e_q; decide; (simp only [go_sem, hbx2s, hm2s]; rfl))); apply e_call; decide; (simp only [go_sem, hbx2s, hm2s]; rfl); (simp only [go_sem, hbx2s, hm2s]; rfl); (apply number_c; exact ⟨rfl, rfl⟩); (iterate 2 (apply e_q; decide; (simp only [go_sem, hbx2s, hm2s]; rfl))); apply e_call; decide; (simp only [go_sem, hbx2s, hm2s]; rfl); (simp only [go_sem, hbx2s, hm2s]; rfl); (apply number_c; exact ⟨rfl, rfl⟩); apply e_lit; decide; exact el_32; (simp only [go_sem, hbx2s, hm2s]; rfl); (simp only [go_sem, hbx2s, hm2s]; rfl); decide; apply e_q; decide; (simp only [go_sem, hbx2s, hm2s]; rfl); apply e_lit; decide; exact el_32; (simp only [go_sem, hbx2s, hm2s]; rfl); (simp only [go_sem, hbx2s, hm2s]; rfl); decide; apply e_q; decide; (simp only [go_sem, hbx2s, hm2s]; rfl); apply e_nil; apply t_append; decide; (simp only [go_sem, hbx2s, hm2s]; rfl); (simp only [go_sem, hbx2s, hm2s]; rfl); apply AApp_loosen; apply AApp_at el_32 hE2' hrc2 (l := (l.take i).map markJ) (m := [markJ m]) (g := J.cells) rfl (by simp [markJ, numJ, J.cells, J.cellss, AV.loosen, AV.loosens, AV.loosenss, strCells]) tk_32 J.one (by simp; omega) (by simp; omega); intro s2 L3 hrc3 hE3 hk3; have hx3 := hk3.less; refine ⟨by (intro _; assumption), ?_⟩)
    have hbx3 := hk3 b3 _ hbx2 (fun _ _ _ h => by cases h)
    have hra3 := hk3.row (by decide) hra2
    obtain ⟨r2, hr2, rfl, hr2g⟩ := hrc3.row (by simp)
    have hrc3' : RowAt 34 5 E L3 _ _ := .inr ⟨r2, hr2, rfl, hr2g⟩
    (apply t_storex; (simp only [go_sem, hbx3]; rfl); (simp only [go_sem, hbx3]; rfl); (simp only [go_sem, hbx3]; rfl); (first | (intro _; exact Ext.put (Ext.refl _) (by assumption)) | (intro h; exact absurd h (by decide)) | (intro _; exact Ext.put (by assumption) (by assumption))); apply t_nil; simp only [AThen, ABlock]; refine hK _ _ ?_; clear hK K; apply s_region; (iterate 2 (apply s_q; decide; rfl; (simp only [go_sem, hbx3]; rfl))); apply s_nil; simp only [AThen, ABlock])
    have hra4 := hra3.put (o' := .box 34 [.v (.int .i64 5), .v (.int .i64 0), .s [], .row r1 1 ((l.take i).map Mark.user ++ [m.user]).length, .row r2 5 ((l.take i).map markJ ++ [markJ m]).length]) hbx3 (fun _ _ _ h => by cases h)
    have hrc4 := hrc3'.put (o' := .box 34 [.v (.int .i64 5), .v (.int .i64 0), .s [], .row r1 1 ((l.take i).map Mark.user ++ [m.user]).length, .row r2 5 ((l.take i).map markJ ++ [markJ m]).length]) hbx3 (fun _ _ _ h => by cases h)
    have e1 : (l.take (i + 1)).map Mark.user = (l.take i).map Mark.user ++ [m.user] := by rw [List.take_add_one, hm]; simp
    have e2 : (l.take (i + 1)).map markJ = (l.take i).map markJ ++ [markJ m] := by rw [List.take_add_one, hm]; simp
    refine ⟨(i + 1, .row r1 1 ((l.take i).map Mark.user ++ [m.user]).length, .row r2 5 ((l.take i).map markJ ++ [markJ m]).length, L3.put b3 (.box 34 [.v (.int .i64 5), .v (.int .i64 0), .s [], .row r1 1 ((l.take i).map Mark.user ++ [m.user]).length, .row r2 5 ((l.take i).map markJ ++ [markJ m]).length])), by simp only; omega, ⟨by simp only; omega, Ext.over hE3 hb3, AHeap.get_put_same _ _ _, ?_, ?_⟩, ?_, ?_⟩
    · simp only [e1]; exact hra4
    · simp only [e2]; simpa only [List.length_map] using hrc4
    · simp only [getAll, List.map_cons, List.map_nil, AFr.get, reduceIte, Nat.reduceEqDiff]
      rw [wrapS hlt (by omega)]; try rfl
    · rfl
  · have hge : l.length ≤ i := by simpa using hd
    rw [List.take_of_length_le hge] at hra hrc
    have hbr := hE b2 _ hE2
    (apply AWp_exit; simp only [AThen, ABlock, reduceIte, Nat.reduceEqDiff]; clear hK K; refine hK _ _ ?_; clear hK K; refine AWp_seq_k (fun K hK => ?_); apply s_region; apply s_q; decide; rfl; (simp only [go_sem, hbx, hbr]; rfl))
    have hst : storeK L (AL.sz? X.P 34) (ptrTo b2) (.agg [.v (.int .i64 5), .v (.int .i64 0), .s [], a, c]) = some (L.put b2 (.box 34 [.v (.int .i64 5), .v (.int .i64 0), .s [], a, c])) := by
      rcases hra with ⟨rfl, _⟩ | ⟨_, _, rfl, _⟩ <;> rcases hrc with ⟨rfl, _⟩ | ⟨_, _, rfl, _⟩ <;> simp only [go_sem, hbr] <;> rfl
    apply s_store rfl rfl hst
    have hbr2 := AHeap.get_put_same b2 (.box 34 [.v (.int .i64 5), .v (.int .i64 0), .s [], a, c]) L
    have hra' := hra.put (o' := .box 34 [.v (.int .i64 5), .v (.int .i64 0), .s [], a, c]) hbr (fun _ _ _ h => by cases h)
    have hrc' := hrc.put (o' := .box 34 [.v (.int .i64 5), .v (.int .i64 0), .s [], a, c]) hbr (fun _ _ _ h => by cases h)
    have hnH : ∀ {x : Nat}, E.get x = none → H.get x = none := fun {x} hx => none_of_ext hHE hx
    have hra2 : RowAt 9 1 H _ _ a := hra'.base hHE
    have hrc2 : RowAt 34 5 H _ _ c := hrc'.base hHE
    have hEL : Ext H _ := Ext.over (o := .box 34 [.v (.int .i64 5), .v (.int .i64 0), .s [], a, c]) (Ext.trans hHE hE) hb2
    generalize L.put b2 (.box 34 [.v (.int .i64 5), .v (.int .i64 0), .s [], a, c]) = L9 at hbr2 hra2 hrc2 hEL ⊢
    (apply s_nil; simp only [AThen, ABlock]; refine hK _ _ ?_; clear hK K; apply AWp_ret)
    refine end_ret (av := .agg [.v (.int .i64 5), .v (.int .i64 0), .s [], a, c]) (by show resAV X.P _ _ [.cell 2 34] = _; simp only [go_sem, hbr2]; try rfl) ⟨_, H, snap_two (pre := [.v (.int .i64 5), .v (.int .i64 0), .s []]) hra2 hrc2 hEL (by decide) (fun _ _ _ => rfl) (fun b sz es => snap_strs b sz es _), ?_⟩
    simp only [contentJ, J.cells_eq, J.kind, J.int, J.text, J.keys, J.list] at h
    exact h
end Go.Proofs.YtpdfgmedbphmkaaDoor
