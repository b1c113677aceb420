/-
  Canonical JSON: a value in order. Contracts.
-/
import Derived.Test.YtpdfgmedbphmkaaDoorCG
set_option linter.unusedSimpArgs false
set_option linter.unusedVariables false
set_option maxRecDepth 100000
namespace Go.Proofs.YtpdfgmedbphmkaaDoor
open Go Go.AL
attribute [local irreducible] AOps AWp SOps AE AT ACall AApp

theorem zc_json : zC X.P 34 = some [.v (.int .i64 0), .v (.int .i64 0), .s [], .sl true [], .sl true []] := zc_34
theorem jget_at {l : List J} {i : Nat} {c : J} (h : l[i]? = some c) : (l.map J.cells)[i]? = some [.v (.int .i64 c.kind), .v (.int .i64 c.int), .s c.text, .sl false (c.keys.map strCells), .sl false (c.list.map J.cells)] := by
  rw [List.getElem?_map, h, ← J.cells_eq]; rfl
theorem jstr_at {l : List (List UInt8)} {i : Nat} {c : List UInt8} (h : l[i]? = some c) : (l.map strCells)[i]? = some [.s c] := by rw [List.getElem?_map, h]; rfl
abbrev jbox (k n : Int) (t : List UInt8) (a c : AV) : AObj := .box 34 [.v (.int .i64 k), .v (.int .i64 n), .s t, a, c]
set_option maxHeartbeats 2000000 in
theorem ordered_c : ∀ (n : Nat) (j : J), goodB n j = true → J.Fit j → ∀ (H : AHeap) (Kc : AV → AHeap → Prop), Kc (.agg j.ord.cells) H → ACall X 27 [.agg j.cells] H Kc := fun n => by
  induction n with
  | zero => intro j h; cases h
  | succ n ih =>
  intro j hg hf H Kc h
  obtain ⟨⟨f1, f1'⟩, f2, f3, f4⟩ := fit_eq.1 hf
  have hsh := good_shaped hg
  have hch : ∀ x ∈ j.list, goodB n x = true := by
    simp only [goodB, Bool.and_eq_true, List.all_eq_true] at hg; exact hg.2
  refine ACall.post ?_
  rw [J.cells_eq]
  refine ACall_intro Tryd.func27 rfl (by kernel_rfl) (by rw [Tryd.ntmps27]; simp) ?_; rw [Tryd.ntmps27]; simp only [frame0, Nat.reduceAdd]
  refine AWp_seq_k (fun K hK => ?_); apply s_region
  apply s_box; decide; exact (by simp only [go_sem]; try rfl); exact (by simp only [go_sem]; try rfl); intro p hp
  apply s_alloc; decide; exact zc_json; intro r hr
  apply s_nil; simp only [AThen, ABlock]; refine hK _ _ ?_; clear hK K
  have g1 := get_fresh (AHeap.get_put_same p (jbox j.kind j.int j.text (.sl false (j.keys.map strCells)) (.sl false (j.list.map J.cells))) H) hr (x := jbox 0 0 [] (.sl true []) (.sl true []))
  have g2 := AHeap.get_put_same r (jbox 0 0 [] (.sl true []) (.sl true [])) (H.put p (jbox j.kind j.int j.text (.sl false (j.keys.map strCells)) (.sl false (j.list.map J.cells))))
  have g3 := (Ext.fresh hp (o := jbox j.kind j.int j.text (.sl false (j.keys.map strCells)) (.sl false (j.list.map J.cells)))).put hr (ob := jbox 0 0 [] (.sl true []) (.sl true []))
  have hHr : H.get r = none := none_fresh hr
  generalize (H.put p (jbox j.kind j.int j.text (.sl false (j.keys.map strCells)) (.sl false (j.list.map J.cells)))).put r (jbox 0 0 [] (.sl true []) (.sl true [])) = M at g1 g2 g3 ⊢
  (refine AWp_seq_k (fun K hK => ?_); apply s_region; (iterate 7 (apply s_q; decide; rfl; (simp only [go_sem, g1]; rfl))); apply s_alloc; decide; exact zc_34; intro b hb; apply s_store; (simp only [go_sem, g1]; rfl); (simp only [go_sem, g1]; rfl); (simp only [go_sem, g1]; rfl); apply s_nil; simp only [AThen, ABlock]; refine hK _ _ ?_; clear hK K; (iterate 2 (refine AWp_seq_k (fun K hK => ?_))); apply s_region; apply s_q; decide; rfl; (simp only [go_sem, g1]; rfl))
  obtain ⟨o, hoe⟩ : ∃ b3, b3 = b := ⟨_, rfl⟩
  have ho := hb
  rw [← hoe] at ho ⊢
  clear hb hoe b
  have k1 := get_fresh g1 ho (x := jbox j.kind j.int j.text (.sl true []) (.sl true []))
  have k2 := get_fresh g2 ho (x := jbox j.kind j.int j.text (.sl true []) (.sl true []))
  have k3 := AHeap.get_put_same o (jbox j.kind j.int j.text (.sl true []) (.sl true [])) M
  have k4 := g3.put ho (ob := jbox j.kind j.int j.text (.sl true []) (.sl true []))
  have hHo : H.get o = none := none_of_ext g3 ho
  have hpo := get_ne_fresh g1 ho
  have hro := get_ne_fresh g2 ho
  generalize M.put o (jbox j.kind j.int j.text (.sl true []) (.sl true [])) = M2 at k1 k2 k3 k4 ⊢
  clear g1 g2 g3 ho M
  have hend : ∀ (xs : List (List UInt8)) (ys : List J) (a c : AV) (L : AHeap), j.ord = .mk j.kind j.int j.text xs ys → Ext H L → L.get r = some (jbox 0 0 [] (.sl true []) (.sl true [])) → RowAt 9 1 H L (xs.map strCells) a → RowAt 34 5 H L (ys.map J.cells) c →
      storeK L (AL.sz? X.P 34) (ptrTo r) (.agg [.v (.int .i64 j.kind), .v (.int .i64 j.int), .s j.text, a, c]) = some (L.put r (jbox j.kind j.int j.text a c)) ∧
      ∃ K, Snap X [.agg [.v (.int .i64 j.kind), .v (.int .i64 j.int), .s j.text, a, c]] (L.put r (jbox j.kind j.int j.text a c)) [.agg j.ord.cells] K ∧ K = H := fun xs ys a c L e1 e2 e3 e4 e5 => by
    refine ⟨?_, H, ?_, rfl⟩
    · rcases e4 with ⟨rfl, _⟩ | ⟨_, _, rfl, _⟩ <;> rcases e5 with ⟨rfl, _⟩ | ⟨_, _, rfl, _⟩ <;> simp only [go_sem, e3] <;> rfl
    · have hra := e4.put (o' := jbox j.kind j.int j.text a c) e3 (fun _ _ _ h => by cases h)
      have hrc := e5.put (o' := jbox j.kind j.int j.text a c) e3 (fun _ _ _ h => by cases h)
      have := snap_two (X := X) (pre := [.v (.int .i64 j.kind), .v (.int .i64 j.int), .s j.text]) hra hrc (e2.over hHr) (by decide) (fun _ _ _ => rfl) (fun b sz es => snap_strs b sz es _)
      rw [e1, J.cells_eq]
      exact this
  ((iterate 2 (apply s_q; decide; rfl; (simp only [go_sem, k1]; rfl))); apply s_nil; simp only [AThen, ABlock]; refine hK _ _ ?_; clear hK K)
  refine cond_split (by simp only [go_sem]; try rfl) (fun h5 => ?_) (fun h5 => ?_)
  · have h5 : j.kind = 5 := by simpa using h5
    obtain ⟨s1, s2, s3⟩ := shaped_map hsh h5
    obtain ⟨pl, hpl⟩ : ∃ pl, placesOf j.keys = pl := ⟨_, rfl⟩
    have hpll : pl.length = j.keys.length := by rw [← hpl, places_len]
    have hplt : ∀ i ∈ pl, i < j.keys.length := fun i hi => places_lt (by rw [hpl]; exact hi)
    ((iterate 2 (refine AWp_seq_k (fun K hK => ?_))); apply s_region; (iterate 2 (apply s_q; decide; rfl; (simp only [go_sem, k1]; rfl))); apply s_call; decide; (simp only [go_sem, k1]; rfl); (simp only [go_sem, k1]; rfl); apply places_c false j.keys s2 (by omega); (iterate 2 (apply s_q; decide; rfl; (simp only [go_sem, k1]; rfl))); apply s_nil; simp only [AThen, ABlock]; refine hK _ _ ?_; clear hK K; apply AWp_block)
    rw [hpl]
    skip
    refine AWp_loop_s (σ := Nat × AV × AV × AHeap) [1, 2, 3, 20, 21, 22] (fun s => [ptrTo p, ptrTo r, ptrTo o, .sl false (pl.map natCells), .v (.int .i64 (pl.length : Nat)), .v (.int .i64 s.1)]) (fun s => s.2.2.2) (fun s => pl.length - s.1)
      (fun s => s.1 ≤ pl.length ∧ Ext H s.2.2.2 ∧ s.2.2.2.get r = some (jbox 0 0 [] (.sl true []) (.sl true [])) ∧ s.2.2.2.get p = some (jbox j.kind j.int j.text (.sl false (j.keys.map strCells)) (.sl false (j.list.map J.cells))) ∧ s.2.2.2.get o = some (jbox j.kind j.int j.text s.2.1 s.2.2.1) ∧
        RowAt 9 1 H s.2.2.2 (((pl.take s.1).map fun i => j.keys.getD i []).map strCells) s.2.1 ∧ RowAt 34 5 H s.2.2.2 (((pl.take s.1).map fun i => (j.list.map J.ord).getD i (.mk 0 0 [] [] [])).map J.cells) s.2.2.1)
      (0, .sl true [], .sl true [], M2) ⟨Nat.zero_le _, k4, k2, k1, k3, RowAt.nil _ _ _ _, RowAt.nil _ _ _ _⟩ rfl rfl (fun s hs => ?_)
    obtain ⟨m, a, c, L⟩ := s
    obtain ⟨hm, hE, hrL, hpL, hoL, hRa, hRc⟩ := hs
    clear k1 k2 k3 k4
    simp only [List.zip_cons_cons, List.zip_nil_right] at hm hE hrL hpL hoL hRa hRc ⊢
    (refine AWp_seq_k (fun K hK => ?_); apply s_region; apply s_q; decide; rfl; (simp only [go_sem]; rfl); apply s_nil; simp only [AThen, ABlock]; refine hK _ _ ?_; clear hK K; refine AWp_seq_k (fun K hK => ?_))
    refine cond_split (by simp only [go_sem]; try rfl) (fun hd => ?_) (fun hd => ?_)
    · have hlt : m < pl.length := by simpa using hd
      obtain ⟨i, hi⟩ := gete hlt
      have hik := hplt i (List.mem_of_getElem? hi)
      have hgi := nat_at hi
      obtain ⟨ky, hky⟩ := gete hik
      have hgk := jstr_at hky
      obtain ⟨x, hx⟩ := gete (l := j.list) (i := i) (by omega)
      have hgx := jget_at hx
      have hxm := List.mem_of_getElem? hx
      have hc5 := J.cells_eq x.ord
      have e1 : (pl.take (m + 1)).map (fun i => j.keys.getD i []) = (pl.take m).map (fun i => j.keys.getD i []) ++ [ky] := by
        rw [take_succ hi, List.map_append, List.map_singleton, List.getD_eq_getElem?_getD, hky]; rfl
      have e2 : (pl.take (m + 1)).map (fun i => (j.list.map J.ord).getD i (.mk 0 0 [] [] [])) = (pl.take m).map (fun i => (j.list.map J.ord).getD i (.mk 0 0 [] [] [])) ++ [x.ord] := by
        rw [take_succ hi, List.map_append, List.map_singleton, List.getD_eq_getElem?_getD, List.getElem?_map, hx]; rfl
      obtain ⟨us, hus⟩ : ∃ us, (pl.take m).map (fun i => j.keys.getD i []) = us := ⟨_, rfl⟩
      obtain ⟨vs, hvs⟩ : ∃ vs, (pl.take m).map (fun i => (j.list.map J.ord).getD i (.mk 0 0 [] [] [])) = vs := ⟨_, rfl⟩
      have hul : us.length ≤ 1000000000 := by rw [← hus]; simp; omega
      have hvl : vs.length ≤ 1000000000 := by rw [← hvs]; simp; omega
      rw [hus] at hRa e1
      rw [hvs] at hRc e2
      have pLs := less_get (e := 9) hpL (fun _ _ _ h => by cases h)
      have oLs := less_get (e := 9) hoL (fun _ _ _ h => by cases h)
      (apply AWp_skip; simp only [AThen, ABlock]; refine hK _ _ ?_; clear hK K; refine AWp_seq_k (fun K hK => ?_); apply AWp_block; refine AWp_seq_k (fun K hK => ?_); apply s_region; (iterate 3 (apply s_q; decide; rfl; (simp only [go_sem, hgi]; rfl))); apply s_nil; simp only [AThen, ABlock]; refine hK _ _ ?_; clear hK K; refine AWp_seq_k (fun K hK => ?_))
      apply AWp_drawAH [0, 1, 2, 3, 4, 5, 6, 7, 9] [8, 10] 1 (less_ext 9 L) (by exact mixed); kernel_rfl; (simp only [go_sem]; rfl); (simp only [go_sem]; rfl)
      ((iterate 7 (apply e_q; decide; (simp only [go_sem, pLs, oLs, hgk]; rfl))); apply e_lit; decide; exact el_31; (simp only [go_sem, pLs, oLs, hgk]; rfl); (simp only [go_sem, pLs, oLs, hgk]; rfl); decide; apply e_q; decide; (simp only [go_sem, pLs, oLs, hgk]; rfl); apply e_nil; apply t_append; decide; (simp only [go_sem, pLs, oLs, hgk]; rfl); (simp only [go_sem, pLs, oLs, hgk]; rfl); apply AApp_at el_31 hE hRa (l := us) (m := [ky]) (g := strCells) rfl rfl tk_31 str_one (by simp; omega) (by simp; omega); intro s1 L1 ra rb rc; have hx1 := rc.less; refine ⟨by (intro _; assumption), ?_⟩)
      have w1 := rc o _ hoL (fun _ _ _ h => by cases h)
      have w2 := rc r _ hrL (fun _ _ _ h => by cases h)
      have w3 := rc p _ hpL (fun _ _ _ h => by cases h)
      have w4 := rc.row (by decide) hRc
      obtain ⟨b1, hb1, rfl, hb1g⟩ := ra.row (by simp)
      have ra' : RowAt 9 1 H L1 _ _ := .inr ⟨b1, hb1, rfl, hb1g⟩
      (apply t_storex; (simp only [go_sem, w1]; rfl); (simp only [go_sem, w1]; rfl); (simp only [go_sem, w1]; rfl); (first | (intro _; exact Ext.put (Ext.refl _) (by assumption)) | (intro h; exact absurd h (by decide)) | (intro _; exact Ext.put (by assumption) (by assumption))); apply t_nil; simp only [AThen, ABlock]; refine hK _ _ ?_; clear hK K)
      have q1 := ra'.put (o' := jbox j.kind j.int j.text (.row b1 1 (us ++ [ky]).length) c) w1 (fun _ _ _ h => by cases h)
      have q2 := w4.put (o' := jbox j.kind j.int j.text (.row b1 1 (us ++ [ky]).length) c) w1 (fun _ _ _ h => by cases h)
      have q3 := AHeap.get_put_same o (jbox j.kind j.int j.text (.row b1 1 (us ++ [ky]).length) c) L1
      have q4 := get_other (x := jbox j.kind j.int j.text (.row b1 1 (us ++ [ky]).length) c) w2 hro
      have q5 := get_other (x := jbox j.kind j.int j.text (.row b1 1 (us ++ [ky]).length) c) w3 hpo
      have q6 := rb.over hHo (o := jbox j.kind j.int j.text (.row b1 1 (us ++ [ky]).length) c)
      simp only [List.length_map] at q1
      generalize L1.put o (jbox j.kind j.int j.text (.row b1 1 (us ++ [ky]).length) c) = L2 at q1 q2 q3 q4 q5 q6 ⊢
      clear w1 w2 w3 w4 ra ra' rb rc hx1 hb1g pLs oLs
      have pLs := less_get (e := 34) q5 (fun _ _ _ h => by cases h)
      have oLs := less_get (e := 34) q3 (fun _ _ _ h => by cases h)
      apply AWp_drawAH [0, 1, 2, 3, 4, 5, 6, 7, 8, 10] [9, 11] 1 (less_ext 34 L2) (by exact mixed); kernel_rfl; (simp only [go_sem]; rfl); (simp only [go_sem]; rfl)
      ((iterate 7 (apply e_q; decide; (simp only [go_sem, pLs, oLs, hgx, hc5]; rfl))); apply e_call; decide; (simp only [go_sem, pLs, oLs, hgx, hc5]; rfl); (simp only [go_sem, pLs, oLs, hgx, hc5]; rfl); (refine ACall.args_eq (bs := [.agg x.cells]) (by rw [J.cells_eq x]) ?_; apply ih x (hch x hxm) (f4 x hxm); exact ⟨rfl, rfl⟩); apply e_lit; decide; exact el_32; (simp only [go_sem, pLs, oLs, hgx, hc5]; rfl); (simp only [go_sem, pLs, oLs, hgx, hc5]; rfl); decide; apply e_q; decide; (simp only [go_sem, pLs, oLs, hgx, hc5]; rfl); apply e_nil; apply t_append; decide; (simp only [go_sem, pLs, oLs, hgx, hc5]; rfl); (simp only [go_sem, pLs, oLs, hgx, hc5]; rfl); apply AApp_at el_32 q6 q2 (l := vs) (m := [x.ord]) (g := J.cells) rfl (by simp [hc5]) tk_32 J.one (by simp; omega) (by simp; omega); intro s2 L3 ra rb rc; have hx3 := rc.less; refine ⟨by (intro _; assumption), ?_⟩)
      have w1 := rc o _ q3 (fun _ _ _ h => by cases h)
      have w2 := rc r _ q4 (fun _ _ _ h => by cases h)
      have w3 := rc p _ q5 (fun _ _ _ h => by cases h)
      have w4 := rc.row (by decide) q1
      obtain ⟨b2, hb2, rfl, hb2g⟩ := ra.row (by simp)
      have ra' : RowAt 34 5 H L3 _ _ := .inr ⟨b2, hb2, rfl, hb2g⟩
      (apply t_storex; (simp only [go_sem, w1]; rfl); (simp only [go_sem, w1]; rfl); (simp only [go_sem, w1]; rfl); (first | (intro _; exact Ext.put (Ext.refl _) (by assumption)) | (intro h; exact absurd h (by decide)) | (intro _; exact Ext.put (by assumption) (by assumption))); apply t_nil; simp only [AThen, ABlock]; refine hK _ _ ?_; clear hK K; apply s_region; (iterate 2 (apply s_q; decide; rfl; (simp only [go_sem, w1]; rfl))); apply s_nil; simp only [AThen, ABlock])
      have z1 := ra'.put (o' := jbox j.kind j.int j.text (.row b1 1 (us ++ [ky]).length) (.row b2 5 (vs ++ [x.ord]).length)) w1 (fun _ _ _ h => by cases h)
      have z2 := w4.put (o' := jbox j.kind j.int j.text (.row b1 1 (us ++ [ky]).length) (.row b2 5 (vs ++ [x.ord]).length)) w1 (fun _ _ _ h => by cases h)
      simp only [List.length_map] at z1
      refine ⟨(m + 1, .row b1 1 (us ++ [ky]).length, .row b2 5 (vs ++ [x.ord]).length, L3.put o (jbox j.kind j.int j.text (.row b1 1 (us ++ [ky]).length) (.row b2 5 (vs ++ [x.ord]).length))), by simp only; omega, ⟨by simp only; omega, rb.over hHo, get_other w2 hro, get_other w3 hpo, AHeap.get_put_same _ _ _, ?_, ?_⟩, ?_, ?_⟩
      · simp only [e1]; exact z2
      · simp only [e2]; exact z1
      · simp only [getAll, List.map_cons, List.map_nil, AFr.get, reduceIte, Nat.reduceEqDiff]
        rw [wrapS hlt (by omega)]; try rfl
      · rfl
    · have hge : pl.length ≤ m := by simpa using hd
      rw [List.take_of_length_le hge] at hRa hRc
      have hord : j.ord = .mk j.kind j.int j.text (pl.map fun i => j.keys.getD i []) (pl.map fun i => (j.list.map J.ord).getD i (.mk 0 0 [] [] [])) := by rw [ord_eq, if_pos h5, hpl, h5]
      obtain ⟨z1, z2, z3, z4⟩ := hend _ _ a c L hord hE hrL hRa hRc
      have z5 := AHeap.get_put_same r (jbox j.kind j.int j.text a c) L
      subst z4
      (apply AWp_exit; simp only [AThen, ABlock, reduceIte, Nat.reduceEqDiff]; clear hK K; refine hK _ _ ?_; clear hK K; refine AWp_seq_k (fun K hK => ?_); apply s_region; apply s_q; decide; rfl; (simp only [go_sem, hoL]; rfl))
      apply s_store rfl rfl z1
      generalize L.put r (jbox j.kind j.int j.text a c) = L9 at z3 z5 ⊢
      (apply s_nil; simp only [AThen, ABlock]; refine hK _ _ ?_; clear hK K; apply AWp_ret)
      simp only [AThen, ABlock]
      refine end_ret (av := .agg [.v (.int .i64 j.kind), .v (.int .i64 j.int), .s j.text, a, c]) (by show resAV X.P _ _ [.cell 2 34] = _; simp only [go_sem, z5]; try rfl) ⟨_, _, z3, h⟩
  · have h5 : ¬ j.kind = 5 := by simpa using h5
    (apply AWp_skip; simp only [AThen, ABlock]; refine hK _ _ ?_; clear hK K; (iterate 2 (refine AWp_seq_k (fun K hK => ?_))); apply s_region; (iterate 4 (apply s_q; decide; rfl; (simp only [go_sem, k1]; rfl))); apply s_nil; simp only [AThen, ABlock]; refine hK _ _ ?_; clear hK K; apply AWp_block)
    refine AWp_loop_s (σ := Nat × AV × AHeap) [2, 3, 50, 51, 52] (fun s => [ptrTo r, ptrTo o, .sl false (j.list.map J.cells), .v (.int .i64 (j.list.length : Nat)), .v (.int .i64 s.1)]) (fun s => s.2.2) (fun s => j.list.length - s.1)
      (fun s => s.1 ≤ j.list.length ∧ Ext H s.2.2 ∧ s.2.2.get r = some (jbox 0 0 [] (.sl true []) (.sl true [])) ∧ s.2.2.get o = some (jbox j.kind j.int j.text (.sl true []) s.2.1) ∧ RowAt 34 5 H s.2.2 (((j.list.take s.1).map J.ord).map J.cells) s.2.1)
      (0, .sl true [], M2) ⟨Nat.zero_le _, k4, k2, k3, RowAt.nil _ _ _ _⟩ rfl rfl (fun s hs => ?_)
    obtain ⟨m, c, L⟩ := s
    obtain ⟨hm, hE, hrL, hoL, hR⟩ := hs
    clear k1 k2 k3 k4
    simp only [List.zip_cons_cons, List.zip_nil_right] at hm hE hrL hoL hR ⊢
    (refine AWp_seq_k (fun K hK => ?_); apply s_region; apply s_q; decide; rfl; (simp only [go_sem]; rfl); apply s_nil; simp only [AThen, ABlock]; refine hK _ _ ?_; clear hK K; refine AWp_seq_k (fun K hK => ?_))
    refine cond_split (by simp only [go_sem]; try rfl) (fun hd => ?_) (fun hd => ?_)
    · have hlt : m < j.list.length := by simpa using hd
      obtain ⟨x, hx⟩ := gete hlt
      have hgx := jget_at hx
      have hxm := List.mem_of_getElem? hx
      (apply AWp_skip; simp only [AThen, ABlock]; refine hK _ _ ?_; clear hK K; refine AWp_seq_k (fun K hK => ?_); apply AWp_block; refine AWp_seq_k (fun K hK => ?_); apply s_region; (iterate 2 (apply s_q; decide; rfl; (simp only [go_sem, hgx]; rfl))); apply s_alloc; decide; exact zc_34; intro b hb; apply s_store; (simp only [go_sem, hgx]; rfl); (simp only [go_sem, hgx]; rfl); (simp only [go_sem, hgx]; rfl); apply s_nil; simp only [AThen, ABlock]; refine hK _ _ ?_; clear hK K)
      obtain ⟨b5, hb5e⟩ : ∃ b3, b3 = b := ⟨_, rfl⟩
      have hb5 := hb
      rw [← hb5e] at hb5 ⊢
      clear hb hb5e b
      have q1 := get_fresh hrL hb5 (x := jbox x.kind x.int x.text (.sl false (x.keys.map strCells)) (.sl false (x.list.map J.cells)))
      have q2 := get_fresh hoL hb5 (x := jbox x.kind x.int x.text (.sl false (x.keys.map strCells)) (.sl false (x.list.map J.cells)))
      have q3 := AHeap.get_put_same b5 (jbox x.kind x.int x.text (.sl false (x.keys.map strCells)) (.sl false (x.list.map J.cells))) L
      have q4 := hE.put hb5 (ob := jbox x.kind x.int x.text (.sl false (x.keys.map strCells)) (.sl false (x.list.map J.cells)))
      have q5 := hR.ext (Ext.fresh hb5 (o := jbox x.kind x.int x.text (.sl false (x.keys.map strCells)) (.sl false (x.list.map J.cells))))
      generalize L.put b5 (jbox x.kind x.int x.text (.sl false (x.keys.map strCells)) (.sl false (x.list.map J.cells))) = L5 at q1 q2 q3 q4 q5 ⊢
      have hc5 := J.cells_eq x.ord
      have q2s := less_get (e := 34) q2 (fun _ _ _ h => by cases h)
      have q3s := less_get (e := 34) q3 (fun _ _ _ h => by cases h)
      apply AWp_drawAH [0, 1, 2, 3, 4, 6] [5, 7] 1 (less_ext 34 L5) (by exact mixed); kernel_rfl; (simp only [go_sem]; rfl); (simp only [go_sem]; rfl)
      ((iterate 3 (apply e_q; decide; (simp only [go_sem, q2s, q3s, hc5]; rfl))); apply e_call; decide; (simp only [go_sem, q2s, q3s, hc5]; rfl); (simp only [go_sem, q2s, q3s, hc5]; rfl); (refine ACall.args_eq (bs := [.agg x.cells]) (by rw [J.cells_eq x]) ?_; apply ih x (hch x hxm) (f4 x hxm); exact ⟨rfl, rfl⟩); apply e_lit; decide; exact el_32; (simp only [go_sem, q2s, q3s, hc5]; rfl); (simp only [go_sem, q2s, q3s, hc5]; rfl); decide; apply e_q; decide; (simp only [go_sem, q2s, q3s, hc5]; rfl); apply e_nil; apply t_append; decide; (simp only [go_sem, q2s, q3s, hc5]; rfl); (simp only [go_sem, q2s, q3s, hc5]; rfl); apply AApp_at el_32 q4 q5 (l := (j.list.take m).map J.ord) (m := [x.ord]) (g := J.cells) rfl (by simp [hc5]) tk_32 J.one (by simp; omega) (by simp; omega); intro s2 L3 r1 r2 r3; have hx3 := r3.less; refine ⟨by (intro _; assumption), ?_⟩)
      have w1 := r3 o _ q2 (fun _ _ _ h => by cases h)
      have w2 := r3 r _ q1 (fun _ _ _ h => by cases h)
      obtain ⟨rb, hrb, rfl, hrbg⟩ := r1.row (by simp)
      have r1' : RowAt 34 5 H L3 _ _ := .inr ⟨rb, hrb, rfl, hrbg⟩
      (apply t_storex; (simp only [go_sem, w1]; rfl); (simp only [go_sem, w1]; rfl); (simp only [go_sem, w1]; rfl); (first | (intro _; exact Ext.put (Ext.refl _) (by assumption)) | (intro h; exact absurd h (by decide)) | (intro _; exact Ext.put (by assumption) (by assumption))); apply t_nil; simp only [AThen, ABlock]; refine hK _ _ ?_; clear hK K; apply s_region; (iterate 2 (apply s_q; decide; rfl; (simp only [go_sem, w1]; rfl))); apply s_nil; simp only [AThen, ABlock])
      have r4 := r1'.put (o' := jbox j.kind j.int j.text (.sl true []) (.row rb 5 (((j.list.take m).map J.ord ++ [x.ord]).map J.cells).length)) w1 (fun _ _ _ h => by cases h)
      have e2 : (j.list.take (m + 1)).map J.ord = (j.list.take m).map J.ord ++ [x.ord] := by rw [take_succ hx]; simp
      refine ⟨(m + 1, .row rb 5 (((j.list.take m).map J.ord ++ [x.ord]).map J.cells).length, L3.put o (jbox j.kind j.int j.text (.sl true []) (.row rb 5 (((j.list.take m).map J.ord ++ [x.ord]).map J.cells).length))), by simp only; omega, ⟨by simp only; omega, r2.over hHo, get_other w2 hro, AHeap.get_put_same _ _ _, ?_⟩, ?_, ?_⟩
      · simp only [e2]; exact r4
      · simp only [getAll, List.map_cons, List.map_nil, AFr.get, reduceIte, Nat.reduceEqDiff]
        rw [wrapS hlt (by omega)]; try rfl
      · simp only [List.length_map]
    · have hge : j.list.length ≤ m := by simpa using hd
      rw [List.take_of_length_le hge] at hR
      have hord : j.ord = .mk j.kind j.int j.text [] (j.list.map J.ord) := by rw [ord_eq, if_neg h5]
      obtain ⟨z1, z2, z3, z4⟩ := hend [] (j.list.map J.ord) (.sl true []) c L hord hE hrL (.inl ⟨rfl, rfl⟩) hR
      have z5 := AHeap.get_put_same r (jbox j.kind j.int j.text (.sl true []) c) L
      subst z4
      (apply AWp_exit; simp only [AThen, ABlock, reduceIte, Nat.reduceEqDiff]; clear hK K; refine hK _ _ ?_; clear hK K; refine AWp_seq_k (fun K hK => ?_); apply s_region; apply s_q; decide; rfl; (simp only [go_sem, hoL]; rfl))
      apply s_store rfl rfl z1
      generalize L.put r (jbox j.kind j.int j.text (.sl true []) c) = L9 at z3 z5 ⊢
      (apply s_nil; simp only [AThen, ABlock]; refine hK _ _ ?_; clear hK K; apply AWp_ret)
      refine end_ret (av := .agg [.v (.int .i64 j.kind), .v (.int .i64 j.int), .s j.text, .sl true [], c]) (by show resAV X.P _ _ [.cell 2 34] = _; simp only [go_sem, z5]; try rfl) ⟨_, _, z3, h⟩
set_option maxHeartbeats 1000000 in
/-- Order: a value that is good, in order; the zero value where it is not. -/
theorem Order_c (j : J) (hf : J.Fit j) {H : AHeap} {Kc : AV → AHeap → Prop} (h : Kc (.agg (if goodB 12 j then j.ord else J.mk 0 0 [] [] []).cells) H) : ACall X 17 [.agg j.cells] H Kc := by
  refine ACall.post ?_
  rw [J.cells_eq]
  refine ACall_intro Tryd.func17 rfl (by kernel_rfl) (by rw [Tryd.ntmps17]; simp) ?_; rw [Tryd.ntmps17]; simp only [frame0, Nat.reduceAdd]
  refine AWp_seq_k (fun K hK => ?_); apply s_region
  apply s_box; decide; exact (by simp only [go_sem]; try rfl); exact (by simp only [go_sem]; try rfl); intro p hp
  apply s_alloc; decide; exact zc_json; intro r hr
  apply s_nil; simp only [AThen, ABlock]; refine hK _ _ ?_; clear hK K
  have g1 := get_fresh (AHeap.get_put_same p (jbox j.kind j.int j.text (.sl false (j.keys.map strCells)) (.sl false (j.list.map J.cells))) H) hr (x := jbox 0 0 [] (.sl true []) (.sl true []))
  have g2 := AHeap.get_put_same r (jbox 0 0 [] (.sl true []) (.sl true [])) (H.put p (jbox j.kind j.int j.text (.sl false (j.keys.map strCells)) (.sl false (j.list.map J.cells))))
  have g3 := (Ext.fresh hp (o := jbox j.kind j.int j.text (.sl false (j.keys.map strCells)) (.sl false (j.list.map J.cells)))).put hr (ob := jbox 0 0 [] (.sl true []) (.sl true []))
  have hHr : H.get r = none := none_fresh hr
  generalize (H.put p (jbox j.kind j.int j.text (.sl false (j.keys.map strCells)) (.sl false (j.list.map J.cells)))).put r (jbox 0 0 [] (.sl true []) (.sl true [])) = M at g1 g2 g3 ⊢
  have hend : ∀ (a : J), storeK M (AL.sz? X.P 34) (ptrTo r) (.agg a.cells) = some (M.put r (jbox a.kind a.int a.text (.sl false (a.keys.map strCells)) (.sl false (a.list.map J.cells)))) ∧ Ext H (M.put r (jbox a.kind a.int a.text (.sl false (a.keys.map strCells)) (.sl false (a.list.map J.cells)))) := fun a => by
    refine ⟨?_, g3.over hHr⟩
    rw [J.cells_eq]; simp only [go_sem, g2]; try rfl
  ((iterate 2 (refine AWp_seq_k (fun K hK => ?_))); apply s_region; apply s_q; decide; rfl; (simp only [go_sem, g1]; rfl); apply s_call; decide; (simp only [go_sem, g1]; rfl); (simp only [go_sem, g1]; rfl); refine ACall.args_eq (bs := [.agg j.cells]) (by rw [J.cells_eq j]) ?_; apply Good_c j _ _ hf; apply s_q; decide; rfl; (simp only [go_sem, g1]; rfl); apply s_nil; simp only [AThen, ABlock]; refine hK _ _ ?_; clear hK K)
  refine cond_split (by simp only [go_sem]; try rfl) (fun hg => ?_) (fun hg => ?_)
  · have hg : goodB 12 j = false := by simpa using hg
    rw [hg] at h
    have z1 : storeK M (AL.sz? X.P 34) (ptrTo r) (.agg [.v (.int .i64 0), .v (.int .i64 0), .s [], .sl true [], .sl true []]) = some (M.put r (jbox 0 0 [] (.sl true []) (.sl true []))) := by simp only [go_sem, g2]; try rfl
    have z3 := AHeap.get_put_same r (jbox 0 0 [] (.sl true []) (.sl true [])) M
    (refine AWp_seq_k (fun K hK => ?_); apply s_region; apply s_q; decide; rfl; (simp only [go_sem, zc_json]; rfl))
    apply s_store rfl rfl z1
    (apply s_nil; simp only [AThen, ABlock]; refine hK _ _ ?_; clear hK K; apply AWp_ret)
    try simp only [AThen, ABlock]
    refine end_ret (av := .agg [.v (.int .i64 0), .v (.int .i64 0), .s [], .sl true [], .sl true []]) (by show resAV X.P _ _ [.cell 2 34] = _; simp only [go_sem, z3]; try rfl) ⟨_, _, Snap.trans Snap.loosen (Snap.drop (g3.over hHr)), h⟩
  · have hg : goodB 12 j = true := by simpa using hg
    rw [hg] at h
    obtain ⟨z1, z2⟩ := hend j.ord
    have z3 := AHeap.get_put_same r (jbox j.ord.kind j.ord.int j.ord.text (.sl false (j.ord.keys.map strCells)) (.sl false (j.ord.list.map J.cells))) M
    (apply AWp_skip; simp only [AThen, ABlock]; refine hK _ _ ?_; clear hK K; refine AWp_seq_k (fun K hK => ?_); apply s_region; apply s_q; decide; rfl; (simp only [go_sem, g1]; rfl); apply s_call; decide; (simp only [go_sem, g1]; rfl); (simp only [go_sem, g1]; rfl); refine ACall.args_eq (bs := [.agg j.cells]) (by rw [J.cells_eq j]) ?_; apply ordered_c 12 j hg hf)
    apply s_store rfl rfl z1
    (apply s_nil; simp only [AThen, ABlock]; refine hK _ _ ?_; clear hK K; apply AWp_ret)
    try simp only [AThen, ABlock]
    refine end_ret (av := .agg j.ord.cells) (by show resAV X.P _ _ [.cell 2 34] = _; simp only [go_sem, z3, J.cells_eq]; try rfl) ⟨_, _, Snap.drop z2, h⟩
end Go.Proofs.YtpdfgmedbphmkaaDoor
