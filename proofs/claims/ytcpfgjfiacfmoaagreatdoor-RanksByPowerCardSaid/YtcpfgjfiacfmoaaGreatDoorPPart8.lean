/-
  Canonical JSON: a value in order. Contracts.
-/
import Derived.Test.YtcpfgjfiacfmoaaGreatDoorPPart7
import Derived.Test.YtcpfgjfiacfmoaaGreatDoorPAL4
set_option linter.unusedSimpArgs false
set_option linter.unusedVariables false
set_option maxRecDepth 100000
namespace Go.Proofs.YtcpfgjfiacfmoaaGreatDoor
open Go Go.AL
attribute [local irreducible] AOps AWp SOps AE AT ACall AApp

theorem zc_json : zC X.P 25 = some [.v (.int .i64 0), .v (.int .i64 0), .s [], .sl true [], .sl true []] := zc_25
theorem jget_at {l : List J} {i : Nat} {c : J} (h : l[i]? = some c) : (l.map J.cells)[i]? = some [.v (.int .i64 c.kind), .v (.int .i64 c.int), .s c.text, .sl false (c.keys.map strCells), .sl false (c.list.map J.cells)] := by
  rw [List.getElem?_map, h, ← J.cells_eq]; rfl
theorem jstr_at {l : List (List UInt8)} {i : Nat} {c : List UInt8} (h : l[i]? = some c) : (l.map strCells)[i]? = some [.s c] := by rw [List.getElem?_map, h]; rfl
abbrev jbox (k n : Int) (t : List UInt8) (a c : AV) : AObj := .box 25 [.v (.int .i64 k), .v (.int .i64 n), .s t, a, c]
set_option maxHeartbeats 2000000 in
theorem ordered_c : ∀ (n : Nat) (j : J), goodB n j = true → J.Fit j → ∀ (H : AHeap) (Kc : AV → AHeap → Prop), Kc (.agg j.ord.cells) H → ACall X 132 [.agg j.cells] H Kc := fun n => by
  induction n with
  | zero => intro j h; cases h
  | succ n ih =>
  intro j hg hf H Kc h
  obtain ⟨⟨f1, f1'⟩, f2, f3, f4⟩ := fit_eq.1 hf
  have hsh := good_shaped hg
  have hch : ∀ x ∈ j.list, goodB n x = true := by
    simp only [goodB, Bool.and_eq_true, List.all_eq_true] at hg; exact hg.2
  refine ACall.post ?_
  rw [J.cells_eq]
  refine ACall_intro Tryz.func132 rfl (by kernel_rfl) (by rw [Tryz.ntmps132]; simp) ?_; rw [Tryz.ntmps132]; simp only [frame0, Nat.reduceAdd]
  apply sR; intro K hK
  apply s_box; decide; exact (by simp only [go_sem]; try rfl); exact (by simp only [go_sem]; try rfl); intro p hp
  apply s_alloc; decide; exact zc_json; intro r hr
  refine s_nil (hK _ _ ?_); clear hK K
  have g1 := get_fresh (AHeap.get_put_same p (jbox j.kind j.int j.text (.sl false (j.keys.map strCells)) (.sl false (j.list.map J.cells))) H) hr (x := jbox 0 0 [] (.sl true []) (.sl true []))
  have g2 := AHeap.get_put_same r (jbox 0 0 [] (.sl true []) (.sl true [])) (H.put p (jbox j.kind j.int j.text (.sl false (j.keys.map strCells)) (.sl false (j.list.map J.cells))))
  have g3 := (Ext.fresh hp (o := jbox j.kind j.int j.text (.sl false (j.keys.map strCells)) (.sl false (j.list.map J.cells)))).put hr (ob := jbox 0 0 [] (.sl true []) (.sl true []))
  have hHr : H.get r = none := none_fresh hr
  generalize (H.put p (jbox j.kind j.int j.text (.sl false (j.keys.map strCells)) (.sl false (j.list.map J.cells)))).put r (jbox 0 0 [] (.sl true []) (.sl true [])) = M at g1 g2 g3 ⊢
  (apply sR; intro K hK; (iterate 7 (apply s_q; decide; rfl; (simp only [go_sem, g1]; rfl))); apply s_alloc; decide; exact zc_25; intro b hb; apply s_store; (iterate 3 (simp only [go_sem, g1]; rfl)); refine s_nil (hK _ _ ?_); clear hK K; apply sK; intro K hK; apply sR; intro K hK; apply s_q; decide; rfl; (simp only [go_sem, g1]; rfl))
  obtain ⟨o, hoe⟩ : ∃ b3, b3 = b := ⟨_, rfl⟩
  have ho := hb
  rw [← hoe] at ho ⊢
  clear hb hoe b
  have k1 := get_fresh g1 ho (x := jbox j.kind j.int j.text (.sl true []) (.sl true []))
  have k2 := get_fresh g2 ho (x := jbox j.kind j.int j.text (.sl true []) (.sl true []))
  have k3 := AHeap.get_put_same o (jbox j.kind j.int j.text (.sl true []) (.sl true [])) M
  have k4 := g3.put ho (ob := jbox j.kind j.int j.text (.sl true []) (.sl true []))
  have hHo : H.get o = none := none_of_ext g3 ho
  have hpo := get_ne_fresh g1 ho
  have hro := get_ne_fresh g2 ho
  generalize M.put o (jbox j.kind j.int j.text (.sl true []) (.sl true [])) = M2 at k1 k2 k3 k4 ⊢
  clear g1 g2 g3 ho M
  have hend : ∀ (xs : List (List UInt8)) (ys : List J) (a c : AV) (L : AHeap), j.ord = .mk j.kind j.int j.text xs ys → Ext H L → L.get r = some (jbox 0 0 [] (.sl true []) (.sl true [])) → RowAt 9 1 H L (xs.map strCells) a → RowAt 25 5 H L (ys.map J.cells) c →
      storeK L (AL.sz? X.P 25) (ptrTo r) (.agg [.v (.int .i64 j.kind), .v (.int .i64 j.int), .s j.text, a, c]) = some (L.put r (jbox j.kind j.int j.text a c)) ∧
      ∃ K, Snap X [.agg [.v (.int .i64 j.kind), .v (.int .i64 j.int), .s j.text, a, c]] (L.put r (jbox j.kind j.int j.text a c)) [.agg j.ord.cells] K ∧ K = H := fun xs ys a c L e1 e2 e3 e4 e5 => by
    refine ⟨?_, H, ?_, rfl⟩
    · rcases e4 with ⟨rfl, _⟩ | ⟨_, _, rfl, _⟩ <;> rcases e5 with ⟨rfl, _⟩ | ⟨_, _, rfl, _⟩ <;> simp only [go_sem, e3] <;> rfl
    · have hra := e4.put (o' := jbox j.kind j.int j.text a c) e3 (fun _ _ _ h => by cases h)
      have hrc := e5.put (o' := jbox j.kind j.int j.text a c) e3 (fun _ _ _ h => by cases h)
      have := snap_two (X := X) (pre := [.v (.int .i64 j.kind), .v (.int .i64 j.int), .s j.text]) hra hrc (e2.over hHr) (by decide) (fun _ _ _ => rfl) (fun b sz es => snap_strs b sz es _)
      rw [e1, J.cells_eq]
      exact this
  ((iterate 2 (apply s_q; decide; rfl; (simp only [go_sem, k1]; rfl))); refine s_nil (hK _ _ ?_); clear hK K)
  refine cs (fun h5 => ?_) (fun h5 => ?_)
  · have h5 : j.kind = 5 := by simpa using h5
    obtain ⟨s1, s2, s3⟩ := shaped_map hsh h5
    obtain ⟨pl, hpl⟩ : ∃ pl, placesOf j.keys = pl := ⟨_, rfl⟩
    have hpll : pl.length = j.keys.length := by rw [← hpl, places_len]
    have hplt : ∀ i ∈ pl, i < j.keys.length := fun i hi => places_lt (by rw [hpl]; exact hi)
    (apply sK; intro K hK; apply sR; intro K hK; (iterate 2 (apply s_q; decide; rfl; (simp only [go_sem, k1]; rfl))); apply s_call; decide; (iterate 2 (simp only [go_sem, k1]; rfl)); apply places_c false j.keys s2 (by omega); (iterate 2 (apply s_q; decide; rfl; (simp only [go_sem, k1]; rfl))); refine s_nil (hK _ _ ?_); clear hK K; apply AWp_block)
    rw [hpl]
    skip
    refine AWp_loop_s (σ := Nat × AV × AV × AHeap) [1, 2, 3, 20, 21, 22] (fun s => [ptrTo p, ptrTo r, ptrTo o, .sl false (pl.map natCells), .v (.int .i64 (pl.length : Nat)), .v (.int .i64 s.1)]) (fun s => s.2.2.2) (fun s => pl.length - s.1)
      (fun s => s.1 ≤ pl.length ∧ Ext H s.2.2.2 ∧ s.2.2.2.get r = some (jbox 0 0 [] (.sl true []) (.sl true [])) ∧ s.2.2.2.get p = some (jbox j.kind j.int j.text (.sl false (j.keys.map strCells)) (.sl false (j.list.map J.cells))) ∧ s.2.2.2.get o = some (jbox j.kind j.int j.text s.2.1 s.2.2.1) ∧
        RowAt 9 1 H s.2.2.2 (((pl.take s.1).map fun i => j.keys.getD i []).map strCells) s.2.1 ∧ RowAt 25 5 H s.2.2.2 (((pl.take s.1).map fun i => (j.list.map J.ord).getD i (.mk 0 0 [] [] [])).map J.cells) s.2.2.1)
      (0, .sl true [], .sl true [], M2) ⟨Nat.zero_le _, k4, k2, k1, k3, RowAt.nil _ _ _ _, RowAt.nil _ _ _ _⟩ rfl rfl (fun s hs => ?_)
    obtain ⟨m, a, c, L⟩ := s
    obtain ⟨hm, hE, hrL, hpL, hoL, hRa, hRc⟩ := hs
    clear k1 k2 k3 k4
    simp only [List.zip_cons_cons, List.zip_nil_right] at hm hE hrL hpL hoL hRa hRc ⊢
    (apply sR; intro K hK; refine qr ?_; refine s_nil (hK _ _ ?_); clear hK K; apply sK; intro K hK)
    refine cs (fun hd => ?_) (fun hd => ?_)
    · have hlt : m < pl.length := by simpa using hd
      obtain ⟨i, hi⟩ := gete hlt
      have hik := hplt i (List.mem_of_getElem? hi)
      have hgi := nat_at hi
      obtain ⟨ky, hky⟩ := gete hik
      have hgk := jstr_at hky
      obtain ⟨x, hx⟩ := gete (l := j.list) (i := i) (by omega)
      have hgx := jget_at hx
      have hxm := List.mem_of_getElem? hx
      have hc5 := J.cells_eq x.ord
      have e1 : (pl.take (m + 1)).map (fun i => j.keys.getD i []) = (pl.take m).map (fun i => j.keys.getD i []) ++ [ky] := by
        rw [take_succ hi, List.map_append, List.map_singleton, List.getD_eq_getElem?_getD, hky]; rfl
      have e2 : (pl.take (m + 1)).map (fun i => (j.list.map J.ord).getD i (.mk 0 0 [] [] [])) = (pl.take m).map (fun i => (j.list.map J.ord).getD i (.mk 0 0 [] [] [])) ++ [x.ord] := by
        rw [take_succ hi, List.map_append, List.map_singleton, List.getD_eq_getElem?_getD, List.getElem?_map, hx]; rfl
      obtain ⟨us, hus⟩ : ∃ us, (pl.take m).map (fun i => j.keys.getD i []) = us := ⟨_, rfl⟩
      obtain ⟨vs, hvs⟩ : ∃ vs, (pl.take m).map (fun i => (j.list.map J.ord).getD i (.mk 0 0 [] [] [])) = vs := ⟨_, rfl⟩
      have hul : us.length ≤ 1000000000 := by rw [← hus]; simp; omega
      have hvl : vs.length ≤ 1000000000 := by rw [← hvs]; simp; omega
      rw [hus] at hRa e1
      rw [hvs] at hRc e2
      have pLs := less_get (e := 9) hpL (fun _ _ _ h => by cases h)
      have oLs := less_get (e := 9) hoL (fun _ _ _ h => by cases h)
      (refine AWp_skip (hK _ _ ?_); clear hK K; apply sK; intro K hK; apply AWp_block; apply sR; intro K hK; (iterate 3 (apply s_q; decide; rfl; (simp only [go_sem, hgi]; rfl))); refine s_nil (hK _ _ ?_); clear hK K; apply sK; intro K hK)
      apply AWp_drawAH [0, 1, 2, 3, 4, 5, 6, 7, 9] [8, 10] 1 (less_ext 9 L) (by exact mixed); kernel_rfl; (iterate 2 (simp only [go_sem]; rfl))
      ((iterate 7 (apply e_q; decide; (simp only [go_sem, pLs, oLs, hgk]; rfl))); apply e_lit; decide; exact el_22; (iterate 2 (simp only [go_sem, pLs, oLs, hgk]; rfl)); decide; apply e_q; decide; (simp only [go_sem, pLs, oLs, hgk]; rfl); apply e_nil; apply t_append; decide; (iterate 2 (simp only [go_sem, pLs, oLs, hgk]; rfl)); apply AApp_at el_22 hE hRa (l := us) (m := [ky]) (g := strCells) rfl rfl tk_22 str_one (by simp; omega) (by simp; omega); intro s1 L1 ra rb rc; have hx1 := rc.less; refine ⟨by (intro _; assumption), ?_⟩)
      have w1 := rc o _ hoL (fun _ _ _ h => by cases h)
      have w2 := rc r _ hrL (fun _ _ _ h => by cases h)
      have w3 := rc p _ hpL (fun _ _ _ h => by cases h)
      have w4 := rc.row (by decide) hRc
      obtain ⟨b1, hb1, rfl, hb1g⟩ := ra.row (by simp)
      have ra' : RowAt 9 1 H L1 _ _ := .inr ⟨b1, hb1, rfl, hb1g⟩
      (apply t_storex; (iterate 3 (simp only [go_sem, w1]; rfl)); (first | (intro _; exact Ext.put (Ext.refl _) (by assumption)) | (intro h; exact absurd h (by decide)) | (intro _; exact Ext.put (by assumption) (by assumption)) | (intro _; refine Ext.over (c := _) ?_ ?_ <;> assumption)); refine t_nil (hK _ _ ?_); clear hK K)
      have q1 := ra'.put (o' := jbox j.kind j.int j.text (.row b1 1 (us ++ [ky]).length) c) w1 (fun _ _ _ h => by cases h)
      have q2 := w4.put (o' := jbox j.kind j.int j.text (.row b1 1 (us ++ [ky]).length) c) w1 (fun _ _ _ h => by cases h)
      have q3 := AHeap.get_put_same o (jbox j.kind j.int j.text (.row b1 1 (us ++ [ky]).length) c) L1
      have q4 := get_other (x := jbox j.kind j.int j.text (.row b1 1 (us ++ [ky]).length) c) w2 hro
      have q5 := get_other (x := jbox j.kind j.int j.text (.row b1 1 (us ++ [ky]).length) c) w3 hpo
      have q6 := rb.over hHo (o := jbox j.kind j.int j.text (.row b1 1 (us ++ [ky]).length) c)
      simp only [List.length_map] at q1
      generalize L1.put o (jbox j.kind j.int j.text (.row b1 1 (us ++ [ky]).length) c) = L2 at q1 q2 q3 q4 q5 q6 ⊢
      clear w1 w2 w3 w4 ra ra' rb rc hx1 hb1g pLs oLs
      have pLs := less_get (e := 25) q5 (fun _ _ _ h => by cases h)
      have oLs := less_get (e := 25) q3 (fun _ _ _ h => by cases h)
      apply AWp_drawAH [0, 1, 2, 3, 4, 5, 6, 7, 8, 10] [9, 11] 1 (less_ext 25 L2) (by exact mixed); kernel_rfl; (iterate 2 (simp only [go_sem]; rfl))
      ((iterate 7 (apply e_q; decide; (simp only [go_sem, pLs, oLs, hgx, hc5]; rfl))); apply e_call; decide; (iterate 2 (simp only [go_sem, pLs, oLs, hgx, hc5]; rfl)); (refine ACall.args_eq (bs := [.agg x.cells]) (by rw [J.cells_eq x]) ?_; apply ih x (hch x hxm) (f4 x hxm); exact ⟨rfl, rfl⟩); apply e_lit; decide; exact el_23; (iterate 2 (simp only [go_sem, pLs, oLs, hgx, hc5]; rfl)); decide; apply e_q; decide; (simp only [go_sem, pLs, oLs, hgx, hc5]; rfl); apply e_nil; apply t_append; decide; (iterate 2 (simp only [go_sem, pLs, oLs, hgx, hc5]; rfl)); apply AApp_at el_23 q6 q2 (l := vs) (m := [x.ord]) (g := J.cells) rfl (by simp [hc5]) tk_23 J.one (by simp; omega) (by simp; omega); intro s2 L3 ra rb rc; have hx3 := rc.less; refine ⟨by (intro _; assumption), ?_⟩)
      have w1 := rc o _ q3 (fun _ _ _ h => by cases h)
      have w2 := rc r _ q4 (fun _ _ _ h => by cases h)
      have w3 := rc p _ q5 (fun _ _ _ h => by cases h)
      have w4 := rc.row (by decide) q1
      obtain ⟨b2, hb2, rfl, hb2g⟩ := ra.row (by simp)
      have ra' : RowAt 25 5 H L3 _ _ := .inr ⟨b2, hb2, rfl, hb2g⟩
      (apply t_storex; (iterate 3 (simp only [go_sem, w1]; rfl)); (first | (intro _; exact Ext.put (Ext.refl _) (by assumption)) | (intro h; exact absurd h (by decide)) | (intro _; exact Ext.put (by assumption) (by assumption)) | (intro _; refine Ext.over (c := _) ?_ ?_ <;> assumption)); refine t_nil (hK _ _ ?_); clear hK K; apply s_region; (iterate 2 (apply s_q; decide; rfl; (simp only [go_sem, w1]; rfl))); apply s_nil; simp only [AThen, ABlock])
      have z1 := ra'.put (o' := jbox j.kind j.int j.text (.row b1 1 (us ++ [ky]).length) (.row b2 5 (vs ++ [x.ord]).length)) w1 (fun _ _ _ h => by cases h)
      have z2 := w4.put (o' := jbox j.kind j.int j.text (.row b1 1 (us ++ [ky]).length) (.row b2 5 (vs ++ [x.ord]).length)) w1 (fun _ _ _ h => by cases h)
      simp only [List.length_map] at z1
      refine ⟨(m + 1, .row b1 1 (us ++ [ky]).length, .row b2 5 (vs ++ [x.ord]).length, L3.put o (jbox j.kind j.int j.text (.row b1 1 (us ++ [ky]).length) (.row b2 5 (vs ++ [x.ord]).length))), by simp only; omega, ⟨by simp only; omega, rb.over hHo, get_other w2 hro, get_other w3 hpo, AHeap.get_put_same _ _ _, ?_, ?_⟩, ?_, ?_⟩
      · simp only [e1]; exact z2
      · simp only [e2]; exact z1
      · simp only [getAll, List.map, AFr.get, reduceIte, Nat.reduceEqDiff]
        rw [wrapS hlt (by omega)]; try rfl
      · rfl
    · have hge : pl.length ≤ m := by simpa using hd
      rw [List.take_of_length_le hge] at hRa hRc
      have hord : j.ord = .mk j.kind j.int j.text (pl.map fun i => j.keys.getD i []) (pl.map fun i => (j.list.map J.ord).getD i (.mk 0 0 [] [] [])) := by rw [ord_eq, if_pos h5, hpl, h5]
      obtain ⟨z1, z2, z3, z4⟩ := hend _ _ a c L hord hE hrL hRa hRc
      have z5 := AHeap.get_put_same r (jbox j.kind j.int j.text a c) L
      subst z4
      (apply AWp_exit; simp only [AThen, ABlock, reduceIte, Nat.reduceEqDiff]; clear hK K; refine hK _ _ ?_; clear hK K; apply sR; intro K hK; apply s_q; decide; rfl; (simp only [go_sem, hoL]; rfl))
      apply s_store rfl rfl z1
      generalize L.put r (jbox j.kind j.int j.text a c) = L9 at z3 z5 ⊢
      (refine s_nil (hK _ _ ?_); clear hK K; apply AWp_ret)
      simp only [AThen, ABlock]
      refine end_ret (av := .agg [.v (.int .i64 j.kind), .v (.int .i64 j.int), .s j.text, a, c]) (by show resAV X.P _ _ [.cell 2 25] = _; simp only [go_sem, z5]; try rfl) ⟨_, _, z3, h⟩
  · have h5 : ¬ j.kind = 5 := by simpa using h5
    (refine AWp_skip (hK _ _ ?_); clear hK K; apply sK; intro K hK; apply sR; intro K hK; (iterate 4 (apply s_q; decide; rfl; (simp only [go_sem, k1]; rfl))); refine s_nil (hK _ _ ?_); clear hK K; apply AWp_block)
    refine AWp_loop_s (σ := Nat × AV × AHeap) [2, 3, 50, 51, 52] (fun s => [ptrTo r, ptrTo o, .sl false (j.list.map J.cells), .v (.int .i64 (j.list.length : Nat)), .v (.int .i64 s.1)]) (fun s => s.2.2) (fun s => j.list.length - s.1)
      (fun s => s.1 ≤ j.list.length ∧ Ext H s.2.2 ∧ s.2.2.get r = some (jbox 0 0 [] (.sl true []) (.sl true [])) ∧ s.2.2.get o = some (jbox j.kind j.int j.text (.sl true []) s.2.1) ∧ RowAt 25 5 H s.2.2 (((j.list.take s.1).map J.ord).map J.cells) s.2.1)
      (0, .sl true [], M2) ⟨Nat.zero_le _, k4, k2, k3, RowAt.nil _ _ _ _⟩ rfl rfl (fun s hs => ?_)
    obtain ⟨m, c, L⟩ := s
    obtain ⟨hm, hE, hrL, hoL, hR⟩ := hs
    clear k1 k2 k3 k4
    simp only [List.zip_cons_cons, List.zip_nil_right] at hm hE hrL hoL hR ⊢
    (apply sR; intro K hK; refine qr ?_; refine s_nil (hK _ _ ?_); clear hK K; apply sK; intro K hK)
    refine cs (fun hd => ?_) (fun hd => ?_)
    · have hlt : m < j.list.length := by simpa using hd
      obtain ⟨x, hx⟩ := gete hlt
      have hgx := jget_at hx
      have hxm := List.mem_of_getElem? hx
      (refine AWp_skip (hK _ _ ?_); clear hK K; apply sK; intro K hK; apply AWp_block; apply sR; intro K hK; (iterate 2 (apply s_q; decide; rfl; (simp only [go_sem, hgx]; rfl))); apply s_alloc; decide; exact zc_25; intro b hb; apply s_store; (iterate 3 (simp only [go_sem, hgx]; rfl)); refine s_nil (hK _ _ ?_); clear hK K)
      obtain ⟨b5, hb5e⟩ : ∃ b3, b3 = b := ⟨_, rfl⟩
      have hb5 := hb
      rw [← hb5e] at hb5 ⊢
      clear hb hb5e b
      have q1 := get_fresh hrL hb5 (x := jbox x.kind x.int x.text (.sl false (x.keys.map strCells)) (.sl false (x.list.map J.cells)))
      have q2 := get_fresh hoL hb5 (x := jbox x.kind x.int x.text (.sl false (x.keys.map strCells)) (.sl false (x.list.map J.cells)))
      have q3 := AHeap.get_put_same b5 (jbox x.kind x.int x.text (.sl false (x.keys.map strCells)) (.sl false (x.list.map J.cells))) L
      have q4 := hE.put hb5 (ob := jbox x.kind x.int x.text (.sl false (x.keys.map strCells)) (.sl false (x.list.map J.cells)))
      have q5 := hR.ext (Ext.fresh hb5 (o := jbox x.kind x.int x.text (.sl false (x.keys.map strCells)) (.sl false (x.list.map J.cells))))
      generalize L.put b5 (jbox x.kind x.int x.text (.sl false (x.keys.map strCells)) (.sl false (x.list.map J.cells))) = L5 at q1 q2 q3 q4 q5 ⊢
      have hc5 := J.cells_eq x.ord
      have q2s := less_get (e := 25) q2 (fun _ _ _ h => by cases h)
      have q3s := less_get (e := 25) q3 (fun _ _ _ h => by cases h)
      apply AWp_drawAH [0, 1, 2, 3, 4, 6] [5, 7] 1 (less_ext 25 L5) (by exact mixed); kernel_rfl; (iterate 2 (simp only [go_sem]; rfl))
      ((iterate 3 (apply e_q; decide; (simp only [go_sem, q2s, q3s, hc5]; rfl))); apply e_call; decide; (iterate 2 (simp only [go_sem, q2s, q3s, hc5]; rfl)); (refine ACall.args_eq (bs := [.agg x.cells]) (by rw [J.cells_eq x]) ?_; apply ih x (hch x hxm) (f4 x hxm); exact ⟨rfl, rfl⟩); apply e_lit; decide; exact el_23; (iterate 2 (simp only [go_sem, q2s, q3s, hc5]; rfl)); decide; apply e_q; decide; (simp only [go_sem, q2s, q3s, hc5]; rfl); apply e_nil; apply t_append; decide; (iterate 2 (simp only [go_sem, q2s, q3s, hc5]; rfl)); apply AApp_at el_23 q4 q5 (l := (j.list.take m).map J.ord) (m := [x.ord]) (g := J.cells) rfl (by simp [hc5]) tk_23 J.one (by simp; omega) (by simp; omega); intro s2 L3 r1 r2 r3; have hx3 := r3.less; refine ⟨by (intro _; assumption), ?_⟩)
      have w1 := r3 o _ q2 (fun _ _ _ h => by cases h)
      have w2 := r3 r _ q1 (fun _ _ _ h => by cases h)
      obtain ⟨rb, hrb, rfl, hrbg⟩ := r1.row (by simp)
      have r1' : RowAt 25 5 H L3 _ _ := .inr ⟨rb, hrb, rfl, hrbg⟩
      (apply t_storex; (iterate 3 (simp only [go_sem, w1]; rfl)); (first | (intro _; exact Ext.put (Ext.refl _) (by assumption)) | (intro h; exact absurd h (by decide)) | (intro _; exact Ext.put (by assumption) (by assumption)) | (intro _; refine Ext.over (c := _) ?_ ?_ <;> assumption)); refine t_nil (hK _ _ ?_); clear hK K; apply s_region; (iterate 2 (apply s_q; decide; rfl; (simp only [go_sem, w1]; rfl))); apply s_nil; simp only [AThen, ABlock])
      have r4 := r1'.put (o' := jbox j.kind j.int j.text (.sl true []) (.row rb 5 (((j.list.take m).map J.ord ++ [x.ord]).map J.cells).length)) w1 (fun _ _ _ h => by cases h)
      have e2 : (j.list.take (m + 1)).map J.ord = (j.list.take m).map J.ord ++ [x.ord] := by rw [take_succ hx]; simp
      refine ⟨(m + 1, .row rb 5 (((j.list.take m).map J.ord ++ [x.ord]).map J.cells).length, L3.put o (jbox j.kind j.int j.text (.sl true []) (.row rb 5 (((j.list.take m).map J.ord ++ [x.ord]).map J.cells).length))), by simp only; omega, ⟨by simp only; omega, r2.over hHo, get_other w2 hro, AHeap.get_put_same _ _ _, ?_⟩, ?_, ?_⟩
      · simp only [e2]; exact r4
      · simp only [getAll, List.map, AFr.get, reduceIte, Nat.reduceEqDiff]
        rw [wrapS hlt (by omega)]; try rfl
      · simp only [List.length_map]
    · have hge : j.list.length ≤ m := by simpa using hd
      rw [List.take_of_length_le hge] at hR
      have hord : j.ord = .mk j.kind j.int j.text [] (j.list.map J.ord) := by rw [ord_eq, if_neg h5]
      obtain ⟨z1, z2, z3, z4⟩ := hend [] (j.list.map J.ord) (.sl true []) c L hord hE hrL (.inl ⟨rfl, rfl⟩) hR
      have z5 := AHeap.get_put_same r (jbox j.kind j.int j.text (.sl true []) c) L
      subst z4
      (apply AWp_exit; simp only [AThen, ABlock, reduceIte, Nat.reduceEqDiff]; clear hK K; refine hK _ _ ?_; clear hK K; apply sR; intro K hK; apply s_q; decide; rfl; (simp only [go_sem, hoL]; rfl))
      apply s_store rfl rfl z1
      generalize L.put r (jbox j.kind j.int j.text (.sl true []) c) = L9 at z3 z5 ⊢
      (refine s_nil (hK _ _ ?_); clear hK K; apply AWp_ret)
      refine end_ret (av := .agg [.v (.int .i64 j.kind), .v (.int .i64 j.int), .s j.text, .sl true [], c]) (by show resAV X.P _ _ [.cell 2 25] = _; simp only [go_sem, z5]; try rfl) ⟨_, _, z3, h⟩
set_option maxHeartbeats 1000000 in
theorem Order_c (j : J) (hf : J.Fit j) {H : AHeap} {Kc : AV → AHeap → Prop} (h : Kc (.agg (if goodB 12 j then j.ord else J.mk 0 0 [] [] []).cells) H) : ACall X 99 [.agg j.cells] H Kc := by
  refine ACall.post ?_
  rw [J.cells_eq]
  refine ACall_intro Tryz.func99 rfl (by kernel_rfl) (by rw [Tryz.ntmps99]; simp) ?_; rw [Tryz.ntmps99]; simp only [frame0, Nat.reduceAdd]
  apply sR; intro K hK
  apply s_box; decide; exact (by simp only [go_sem]; try rfl); exact (by simp only [go_sem]; try rfl); intro p hp
  apply s_alloc; decide; exact zc_json; intro r hr
  refine s_nil (hK _ _ ?_); clear hK K
  have g1 := get_fresh (AHeap.get_put_same p (jbox j.kind j.int j.text (.sl false (j.keys.map strCells)) (.sl false (j.list.map J.cells))) H) hr (x := jbox 0 0 [] (.sl true []) (.sl true []))
  have g2 := AHeap.get_put_same r (jbox 0 0 [] (.sl true []) (.sl true [])) (H.put p (jbox j.kind j.int j.text (.sl false (j.keys.map strCells)) (.sl false (j.list.map J.cells))))
  have g3 := (Ext.fresh hp (o := jbox j.kind j.int j.text (.sl false (j.keys.map strCells)) (.sl false (j.list.map J.cells)))).put hr (ob := jbox 0 0 [] (.sl true []) (.sl true []))
  have hHr : H.get r = none := none_fresh hr
  generalize (H.put p (jbox j.kind j.int j.text (.sl false (j.keys.map strCells)) (.sl false (j.list.map J.cells)))).put r (jbox 0 0 [] (.sl true []) (.sl true [])) = M at g1 g2 g3 ⊢
  have hend : ∀ (a : J), storeK M (AL.sz? X.P 25) (ptrTo r) (.agg a.cells) = some (M.put r (jbox a.kind a.int a.text (.sl false (a.keys.map strCells)) (.sl false (a.list.map J.cells)))) ∧ Ext H (M.put r (jbox a.kind a.int a.text (.sl false (a.keys.map strCells)) (.sl false (a.list.map J.cells)))) := fun a => by
    refine ⟨?_, g3.over hHr⟩
    rw [J.cells_eq]; simp only [go_sem, g2]; try rfl
  (apply sK; intro K hK; apply sR; intro K hK; apply s_q; decide; rfl; (simp only [go_sem, g1]; rfl); apply s_call; decide; (iterate 2 (simp only [go_sem, g1]; rfl)); refine ACall.args_eq (bs := [.agg j.cells]) (by rw [J.cells_eq j]) ?_; apply Good_c j _ _ hf; apply s_q; decide; rfl; (simp only [go_sem, g1]; rfl); refine s_nil (hK _ _ ?_); clear hK K)
  refine cs (fun hg => ?_) (fun hg => ?_)
  · have hg : goodB 12 j = false := by simpa using hg
    rw [hg] at h
    have z1 : storeK M (AL.sz? X.P 25) (ptrTo r) (.agg [.v (.int .i64 0), .v (.int .i64 0), .s [], .sl true [], .sl true []]) = some (M.put r (jbox 0 0 [] (.sl true []) (.sl true []))) := by simp only [go_sem, g2]; try rfl
    have z3 := AHeap.get_put_same r (jbox 0 0 [] (.sl true []) (.sl true [])) M
    (apply sR; intro K hK; apply s_q; decide; rfl; (simp only [go_sem, zc_json]; rfl))
    apply s_store rfl rfl z1
    (refine s_nil (hK _ _ ?_); clear hK K; apply AWp_ret)
    try simp only [AThen, ABlock]
    refine end_ret (av := .agg [.v (.int .i64 0), .v (.int .i64 0), .s [], .sl true [], .sl true []]) (by show resAV X.P _ _ [.cell 2 25] = _; simp only [go_sem, z3]; try rfl) ⟨_, _, Snap.trans Snap.loosen (Snap.drop (g3.over hHr)), h⟩
  · have hg : goodB 12 j = true := by simpa using hg
    rw [hg] at h
    obtain ⟨z1, z2⟩ := hend j.ord
    have z3 := AHeap.get_put_same r (jbox j.ord.kind j.ord.int j.ord.text (.sl false (j.ord.keys.map strCells)) (.sl false (j.ord.list.map J.cells))) M
    (refine AWp_skip (hK _ _ ?_); clear hK K; apply sR; intro K hK; apply s_q; decide; rfl; (simp only [go_sem, g1]; rfl); apply s_call; decide; (iterate 2 (simp only [go_sem, g1]; rfl)); refine ACall.args_eq (bs := [.agg j.cells]) (by rw [J.cells_eq j]) ?_; apply ordered_c 12 j hg hf)
    apply s_store rfl rfl z1
    (refine s_nil (hK _ _ ?_); clear hK K; apply AWp_ret)
    try simp only [AThen, ABlock]
    refine end_ret (av := .agg j.ord.cells) (by show resAV X.P _ _ [.cell 2 25] = _; simp only [go_sem, z3, J.cells_eq]; try rfl) ⟨_, _, Snap.drop z2, h⟩

theorem str_at {ks : List (List UInt8)} {i : Nat} {x : List UInt8} (h : ks[i]? = some x) : (ks.map strCells)[i]? = some [.s x] := by rw [List.getElem?_map, h]; rfl
theorem nodup_take {ks : List (List UInt8)} {i : Nat} {x : List UInt8} (hi : ks[i]? = some x) : (ks.take (i + 1)).Nodup ↔ (ks.take i).Nodup ∧ x ∉ ks.take i := by
  rw [take_succ hi, List.nodup_append]
  simp only [List.nodup_cons, List.not_mem_nil, not_false_eq_true, List.nodup_nil, and_self, List.mem_singleton, true_and]
  exact ⟨fun ⟨a, b⟩ => ⟨a, fun h => b x h x rfl rfl⟩, fun ⟨a, b⟩ => ⟨a, fun y hy z hz => by rintro rfl; subst hz; exact b hy⟩⟩
theorem named_false {ks : List (List UInt8)} (h : ¬ (ks.Nodup ∧ ∀ k ∈ ks, Lib.validD k = true)) : namedB Lib.validD ks = false := by
  rw [namedB]
  by_cases h1 : ks.Nodup
  · rw [decide_eq_true h1, Bool.true_and, Bool.eq_false_iff]
    intro h2; exact h ⟨h1, List.all_eq_true.1 h2⟩
  · rw [decide_eq_false h1, Bool.false_and]
set_option maxHeartbeats 1000000 in
theorem rkeys_c (t : Bool) (ks : List (List UInt8)) (hl : ks.length ≤ 1000000000) (hkl : ∀ x ∈ ks, x.length ≤ 4611686018427387904) (H : AHeap) (Kc : AV → AHeap → Prop) (h : Kc (.v (.bool (namedB Lib.validD ks))) H) : ACall X 159 [.sl t (ks.map strCells)] H Kc := by
  refine ACall_intro Tryz.func159 rfl (by kernel_rfl) (by rw [Tryz.ntmps159]; simp) ?_; rw [Tryz.ntmps159]; simp only [frame0, Nat.reduceAdd]
  (apply sR; intro K hK; refine qr ?_; refine s_nil (hK _ _ ?_); clear hK K; apply sK; intro K hK; apply sR; intro K hK; refine qr ?_; refine s_nil (hK _ _ ?_); clear hK K; apply AWp_block)
  refine AWp_loop_s (σ := Nat) [0, 3] (fun i => [.sl t (ks.map strCells), .v (.int .i64 ((i : Nat) : Int))]) (fun _ => H) (fun i => ks.length - i) (fun i => i ≤ ks.length ∧ (ks.take i).Nodup ∧ ∀ k ∈ ks.take i, Lib.validD k = true) 0 ⟨Nat.zero_le _, by simp, by simp⟩ rfl rfl (fun i hi => ?_)
  obtain ⟨h1, h2, h3⟩ := hi
  simp only [List.zip_cons_cons, List.zip_nil_right]
  (apply sK; intro K hK; apply sR; intro K hK; (iterate 4 (refine qr ?_)); refine s_nil (hK _ _ ?_); clear hK K)
  refine cs (fun hd => ?_) (fun hd => ?_)
  · have hlt : i < ks.length := by simpa using hd
    obtain ⟨x, hx⟩ := gete hlt
    have hgx := str_at hx
    have hxm : x ∈ ks := List.mem_of_getElem? hx
    (refine AWp_skip (hK _ _ ?_); clear hK K; apply sK; intro K hK; apply AWp_block; apply sK; intro K hK; apply sR; intro K hK; (iterate 4 (apply s_q; decide; rfl; (simp only [go_sem, hgx]; rfl))); apply s_call; decide; (iterate 2 (simp only [go_sem, hgx]; rfl)); apply bad_c x (hkl x hxm); apply s_q; decide; rfl; (simp only [go_sem, hgx]; rfl); refine s_nil (hK _ _ ?_); clear hK K)
    refine cs (fun he => ?_) (fun he => ?_)
    · rw [badI_ge] at he
      rw [named_false (fun hh => by rw [hh.2 x hxm] at he; cases he)] at h
      (apply sR; intro K hK; refine qr ?_; refine s_nil (hK _ _ ?_); clear hK K; apply AWp_ret; simp only [AThen, ABlock]; apply end_ret; rfl; simp only [AFr.get, reduceIte, Nat.reduceEqDiff])
      exact h
    rw [badI_ge] at he
    have hv : Lib.validD x = true := by simpa using he
    (refine AWp_skip (hK _ _ ?_); clear hK K; apply sR; intro K hK; refine qr ?_; refine s_nil (hK _ _ ?_); clear hK K; apply AWp_block)
    refine AWp_loop_s (σ := Nat) [0, 3, 4] (fun k => [.sl t (ks.map strCells), .v (.int .i64 ((i : Nat) : Int)), .v (.int .i64 ((k : Nat) : Int))]) (fun _ => H) (fun k => i - k) (fun k => k ≤ i ∧ x ∉ ks.take k) 0 ⟨Nat.zero_le _, by simp⟩ rfl rfl (fun k hk => ?_)
    obtain ⟨k1, k2⟩ := hk
    simp only [List.zip_cons_cons, List.zip_nil_right]
    (apply sK; intro K hK; apply sR; intro K hK; (iterate 3 (refine qr ?_)); refine s_nil (hK _ _ ?_); clear hK K)
    refine cs (fun hf => ?_) (fun hf => ?_)
    · have hlk : k < i := by simpa using hf
      obtain ⟨y, hy⟩ := gete (l := ks) (i := k) (by omega)
      have hgy := str_at hy
      (refine AWp_skip (hK _ _ ?_); clear hK K; apply sK; intro K hK; apply AWp_block; apply sK; intro K hK)
      apply AWp_drawA [0, 1, 2, 3, 4, 5, 6, 7, 8] [] 0 (by exact mixed); kernel_rfl; (iterate 2 (simp only [go_sem]; rfl))
      ((iterate 9 (apply e_q; decide; (simp only [go_sem, hgx, hgy]; rfl))); apply e_nil; refine t_nil (hK _ _ ?_); clear hK K)
      refine cs (fun hg => ?_) (fun hg => ?_)
      · have hg : x = y := by simpa using hg
        rw [named_false (fun hh => by
          have := (nodup_take hx).1 (hh.1.sublist (List.take_sublist _ _))
          exact this.2 (List.mem_take_iff_getElem.2 ⟨k, by omega, by rw [hg]; exact (List.getElem?_eq_some_iff.1 hy).2⟩))] at h
        (apply sR; intro K hK; refine qr ?_; refine s_nil (hK _ _ ?_); clear hK K; apply AWp_ret; simp only [AThen, ABlock]; apply end_ret; rfl; simp only [AFr.get, reduceIte, Nat.reduceEqDiff])
        exact h
      · have hg : ¬ x = y := by simpa using hg
        (refine AWp_skip (hK _ _ ?_); clear hK K; apply s_region; (iterate 3 (refine qr ?_)); apply s_nil; simp only [AThen, ABlock])
        refine ⟨k + 1, by omega, ⟨by omega, ?_⟩, ?_, by trivial⟩
        · rw [take_succ hy, List.mem_append, List.mem_singleton]
          rintro (h | h)
          · exact k2 h
          · exact hg h
        · simp only [getAll, List.map, AFr.get, reduceIte, Nat.reduceEqDiff]
          rw [wrapS hlk (by omega)]; try rfl
    · have hge : k = i := by simp at hf; omega
      subst hge
      (apply AWp_exit; simp only [AThen, ABlock, reduceIte, Nat.reduceEqDiff]; clear hK K; refine hK _ _ ?_; clear hK K; apply s_region; (iterate 3 (refine qr ?_)); apply s_nil; simp only [AThen, ABlock])
      refine ⟨k + 1, by omega, ⟨by omega, (nodup_take hx).2 ⟨h2, k2⟩, fun z hz => ?_⟩, ?_, by trivial⟩
      · rw [take_succ hx, List.mem_append, List.mem_singleton] at hz
        rcases hz with hz | rfl
        · exact h3 z hz
        · exact hv
      · simp only [getAll, List.map, AFr.get, reduceIte, Nat.reduceEqDiff]
        rw [wrapS hlt (by omega)]; try rfl
  · have hge : ks.length ≤ i := by simpa using hd
    rw [List.take_of_length_le hge] at h2 h3
    rw [show namedB Lib.validD ks = true by rw [namedB, decide_eq_true h2, Bool.true_and, List.all_eq_true]; exact h3] at h
    (apply AWp_exit; simp only [AThen, ABlock, reduceIte, Nat.reduceEqDiff]; clear hK K; refine hK _ _ ?_; clear hK K; apply sR; intro K hK; refine qr ?_; refine s_nil (hK _ _ ?_); clear hK K; apply AWp_ret)
    exact h
set_option maxHeartbeats 4000000 in
theorem rshape_c (j : J) (hf : J.Fit j) (H : AHeap) (Kc : AV → AHeap → Prop) (h : Kc (.v (.bool (shapedB Lib.validD j))) H) : ACall X 140 [.agg j.cells] H Kc := by
  obtain ⟨⟨f1, f2⟩, f3, f4, _⟩ := fit_eq.1 hf
  refine ACall.drop ?_
  rw [J.cells_eq]
  have hemp : decide (IntKind.i64.wrap ((j.keys.length : Int) + j.list.length) = 0) = (decide (j.keys = []) && decide (j.list = [])) := by
    rw [wrap64 (by omega)]
    cases hk : j.keys with
    | nil =>
      cases hll : j.list with
      | nil => simp
      | cons a l => simp; omega
    | cons a l => simp; omega
  refine ACall_intro Tryz.func140 rfl (by kernel_rfl) (by rw [Tryz.ntmps140]; simp) ?_; rw [Tryz.ntmps140]; simp only [frame0, Nat.reduceAdd]
  apply sR; intro K hK
  apply s_box; decide; exact (by simp only [go_sem]; try rfl); exact (by simp only [go_sem]; try rfl); intro s hs
  (refine qr ?_; refine s_nil (hK _ _ ?_); clear hK K; apply sR; intro K hK; (iterate 9 (refine qr ?_)); refine s_nil (hK _ _ ?_); clear hK K; apply sK; intro K hK; apply sR; intro K hK; (iterate 2 (refine qr ?_)); refine s_nil (hK _ _ ?_); clear hK K; apply AWp_block; apply sR; intro K hK; (iterate 2 (refine qr ?_)); refine s_nil (hK _ _ ?_); clear hK K)
  generalize hgenq : AHeap.put s _ H = M; obtain ⟨g, hextq⟩ := gen_ex hgenq hs; have hE := hextq; clear hextq hgenq
  have hfin : ∀ b : Bool, b = shapedB Lib.validD j → ∃ L', Ext L' M ∧ Kc (.v (.bool b)) L' := fun b hb => ⟨H, hE, by rw [hb]; exact h⟩
  skip
  refine cs (fun h0 => ?_) (fun h0 => ?_)
  · (apply sR; intro K hK; (iterate 2 (apply s_q; decide; rfl; (simp only [go_sem, g]; rfl))); apply s_spec; decide; rfl; rfl; (iterate 4 (simp only [go_sem, g]; rfl)); trivial; (iterate 2 (apply s_spec; decide; rfl; rfl; (iterate 4 (simp only [go_sem, g]; rfl)); simp [condsOk])); apply s_pick; decide; (iterate 6 (simp only [go_sem, g]; rfl)); trivial; simp [condsOk]; trivial; apply s_q; decide; rfl; (simp only [go_sem, g]; rfl); apply s_spec; decide; rfl; rfl; (iterate 4 (simp only [go_sem, g]; rfl)); trivial; (iterate 2 (apply s_spec; decide; rfl; rfl; (iterate 4 (simp only [go_sem, g]; rfl)); simp [condsOk])); apply s_pick; decide; (iterate 6 (simp only [go_sem, g]; rfl)); trivial; simp [condsOk]; trivial; apply s_q; decide; rfl; (simp only [go_sem, g]; rfl); refine s_nil (hK _ _ ?_); clear hK K; apply AWp_ret; simp only [AThen, ABlock]; apply end_ret; rfl; simp only [AFr.get, reduceIte, Nat.reduceEqDiff])
    have h0 : j.kind = 0 := by simpa using h0
    refine hfin _ ?_
    try rw [hemp]
    simp [shapedB, h0, Bool.and_assoc]
  have h0 : ¬ j.kind = 0 := by simpa using h0
  (apply sR; intro K hK; (iterate 2 (refine qr ?_)); refine s_nil (hK _ _ ?_); clear hK K)
  refine cs (fun h1 => ?_) (fun h1 => ?_)
  · (apply sR; intro K hK; (iterate 2 (apply s_q; decide; rfl; (simp only [go_sem, g]; rfl))); apply s_spec; decide; rfl; rfl; (iterate 4 (simp only [go_sem, g]; rfl)); trivial; (iterate 3 (apply s_spec; decide; rfl; rfl; (iterate 4 (simp only [go_sem, g]; rfl)); simp [condsOk])); apply s_spec; decide; rfl; rfl; (iterate 4 (simp only [go_sem, g]; rfl)); trivial; (iterate 2 (apply s_spec; decide; rfl; rfl; (iterate 4 (simp only [go_sem, g]; rfl)); simp [condsOk])); apply s_pickg; decide; (iterate 8 (simp only [go_sem, g]; rfl)); simp [condsOk]; trivial; simp [condsOk]; apply s_pick; decide; (iterate 6 (simp only [go_sem, g]; rfl)); trivial; simp [condsOk]; trivial; apply s_q; decide; rfl; (simp only [go_sem, g]; rfl); apply s_spec; decide; rfl; rfl; (iterate 4 (simp only [go_sem, g]; rfl)); trivial; (iterate 2 (apply s_spec; decide; rfl; rfl; (iterate 4 (simp only [go_sem, g]; rfl)); simp [condsOk])); apply s_pick; decide; (iterate 6 (simp only [go_sem, g]; rfl)); trivial; simp [condsOk]; trivial; apply s_q; decide; rfl; (simp only [go_sem, g]; rfl); refine s_nil (hK _ _ ?_); clear hK K; apply AWp_ret; simp only [AThen, ABlock]; apply end_ret; rfl; simp only [AFr.get, reduceIte, Nat.reduceEqDiff])
    have h1 : j.kind = 1 := by simpa using h1
    refine hfin _ ?_
    try rw [hemp]
    simp [shapedB, h1, len0, Bool.and_assoc, Bool.and_comm, Bool.and_left_comm]
  have h1 : ¬ j.kind = 1 := by simpa using h1
  (apply sR; intro K hK; (iterate 2 (refine qr ?_)); refine s_nil (hK _ _ ?_); clear hK K)
  refine cs (fun h2 => ?_) (fun h2 => ?_)
  · (apply sR; intro K hK; (iterate 2 (apply s_q; decide; rfl; (simp only [go_sem, g]; rfl))); apply s_spec; decide; rfl; rfl; (iterate 4 (simp only [go_sem, g]; rfl)); trivial; (iterate 2 (apply s_spec; decide; rfl; rfl; (iterate 4 (simp only [go_sem, g]; rfl)); simp [condsOk])); apply s_pick; decide; (iterate 6 (simp only [go_sem, g]; rfl)); trivial; simp [condsOk]; trivial; apply s_q; decide; rfl; (simp only [go_sem, g]; rfl); apply s_spec; decide; rfl; rfl; (iterate 4 (simp only [go_sem, g]; rfl)); trivial; (iterate 2 (apply s_spec; decide; rfl; rfl; (iterate 4 (simp only [go_sem, g]; rfl)); simp [condsOk])); apply s_pick; decide; (iterate 6 (simp only [go_sem, g]; rfl)); trivial; simp [condsOk]; trivial; apply s_q; decide; rfl; (simp only [go_sem, g]; rfl); apply s_spec; decide; rfl; rfl; (iterate 4 (simp only [go_sem, g]; rfl)); trivial; (iterate 2 (apply s_spec; decide; rfl; rfl; (iterate 4 (simp only [go_sem, g]; rfl)); simp [condsOk])); apply s_pick; decide; (iterate 6 (simp only [go_sem, g]; rfl)); trivial; simp [condsOk]; trivial; apply s_q; decide; rfl; (simp only [go_sem, g]; rfl); refine s_nil (hK _ _ ?_); clear hK K; apply AWp_ret; simp only [AThen, ABlock]; apply end_ret; rfl; simp only [AFr.get, reduceIte, Nat.reduceEqDiff])
    have h2 : j.kind = 2 := by simpa using h2
    refine hfin _ ?_
    try rw [hemp]
    simp [shapedB, h2, len0, Bool.and_assoc, Bool.and_comm, Bool.and_left_comm]
  have h2 : ¬ j.kind = 2 := by simpa using h2
  (apply sR; intro K hK; (iterate 2 (refine qr ?_)); refine s_nil (hK _ _ ?_); clear hK K)
  refine cs (fun h3 => ?_) (fun h3 => ?_)
  · (apply sR; intro K hK; (iterate 2 (apply s_q; decide; rfl; (simp only [go_sem, g, badI_valid]; rfl))); apply s_spec; decide; rfl; rfl; (iterate 4 (simp only [go_sem, g, badI_valid]; rfl)); trivial; (iterate 2 (apply s_spec; decide; rfl; rfl; (iterate 4 (simp only [go_sem, g, badI_valid]; rfl)); simp [condsOk])); apply s_pick; decide; (iterate 6 (simp only [go_sem, g, badI_valid]; rfl)); trivial; simp [condsOk]; trivial; apply s_q; decide; rfl; (simp only [go_sem, g, badI_valid]; rfl); apply s_spec; decide; rfl; rfl; (iterate 4 (simp only [go_sem, g, badI_valid]; rfl)); trivial; apply s_spec; decide; rfl; rfl; (iterate 4 (simp only [go_sem, g, badI_valid]; rfl)); simp [condsOk]; apply s_gpure; decide; (iterate 3 (simp only [go_sem, g, badI_valid]; rfl)); simp [condsOk]; (iterate 2 (simp only [go_sem, g, badI_valid]; rfl)); (apply bad_c _ f3; exact ⟨rfl, rfl⟩); apply s_spec; decide; rfl; rfl; (iterate 4 (simp only [go_sem, g, badI_valid]; rfl)); simp [condsOk]; apply s_pick; decide; (iterate 6 (simp only [go_sem, g, badI_valid]; rfl)); trivial; simp [condsOk]; trivial; apply s_q; decide; rfl; (simp only [go_sem, g, badI_valid]; rfl); refine s_nil (hK _ _ ?_); clear hK K; apply AWp_ret; simp only [AThen, ABlock]; apply end_ret; rfl; simp only [AFr.get, reduceIte, Nat.reduceEqDiff])
    have h3 : j.kind = 3 := by simpa using h3
    refine hfin _ ?_
    try rw [hemp]
    simp [shapedB, h3, len0, Bool.and_assoc]
  have h3 : ¬ j.kind = 3 := by simpa using h3
  (apply sR; intro K hK; (iterate 2 (refine qr ?_)); refine s_nil (hK _ _ ?_); clear hK K)
  refine cs (fun h4 => ?_) (fun h4 => ?_)
  · (apply sR; intro K hK; (iterate 5 (apply s_q; decide; rfl; (simp only [go_sem, g]; rfl))); apply s_spec; decide; rfl; rfl; (iterate 4 (simp only [go_sem, g]; rfl)); trivial; (iterate 2 (apply s_spec; decide; rfl; rfl; (iterate 4 (simp only [go_sem, g]; rfl)); simp [condsOk])); apply s_pick; decide; (iterate 6 (simp only [go_sem, g]; rfl)); trivial; simp [condsOk]; trivial; apply s_q; decide; rfl; (simp only [go_sem, g]; rfl); apply s_spec; decide; rfl; rfl; (iterate 4 (simp only [go_sem, g]; rfl)); trivial; (iterate 2 (apply s_spec; decide; rfl; rfl; (iterate 4 (simp only [go_sem, g]; rfl)); simp [condsOk])); apply s_pick; decide; (iterate 6 (simp only [go_sem, g]; rfl)); trivial; simp [condsOk]; trivial; apply s_q; decide; rfl; (simp only [go_sem, g]; rfl); refine s_nil (hK _ _ ?_); clear hK K; apply AWp_ret; simp only [AThen, ABlock]; apply end_ret; rfl; simp only [AFr.get, reduceIte, Nat.reduceEqDiff])
    have h4 : j.kind = 4 := by simpa using h4
    refine hfin _ ?_
    try rw [hemp]
    simp [shapedB, h4, len0, Bool.and_assoc]
  have h4 : ¬ j.kind = 4 := by simpa using h4
  (apply sR; intro K hK; (iterate 2 (refine qr ?_)); refine s_nil (hK _ _ ?_); clear hK K)
  refine cs (fun h5 => ?_) (fun h5 => ?_)
  · (apply sR; intro K hK; (iterate 8 (apply s_q; decide; rfl; (simp only [go_sem, g]; rfl))); apply s_spec; decide; rfl; rfl; (iterate 4 (simp only [go_sem, g]; rfl)); trivial; (iterate 2 (apply s_spec; decide; rfl; rfl; (iterate 4 (simp only [go_sem, g]; rfl)); simp [condsOk])); apply s_pick; decide; (iterate 6 (simp only [go_sem, g]; rfl)); trivial; simp [condsOk]; trivial; apply s_q; decide; rfl; (simp only [go_sem, g]; rfl); apply s_spec; decide; rfl; rfl; (iterate 4 (simp only [go_sem, g]; rfl)); trivial; (iterate 2 (apply s_spec; decide; rfl; rfl; (iterate 4 (simp only [go_sem, g]; rfl)); simp [condsOk])); apply s_pick; decide; (iterate 6 (simp only [go_sem, g]; rfl)); trivial; simp [condsOk]; trivial; apply s_q; decide; rfl; (simp only [go_sem, g]; rfl); apply s_spec; decide; rfl; rfl; (iterate 4 (simp only [go_sem, g]; rfl)); trivial; apply s_spec; decide; rfl; rfl; (iterate 4 (simp only [go_sem, g]; rfl)); simp [condsOk]; apply s_gpure; decide; (iterate 3 (simp only [go_sem, g]; rfl)); simp [condsOk]; (iterate 2 (simp only [go_sem, g]; rfl)); (apply rkeys_c false j.keys f1 f4; exact ⟨rfl, rfl⟩); apply s_pick; decide; (iterate 6 (simp only [go_sem, g]; rfl)); trivial; simp [condsOk]; trivial; apply s_q; decide; rfl; (simp only [go_sem, g]; rfl); refine s_nil (hK _ _ ?_); clear hK K; apply AWp_ret; simp only [AThen, ABlock]; apply end_ret; rfl; simp only [AFr.get, reduceIte, Nat.reduceEqDiff])
    have h5 : j.kind = 5 := by simpa using h5
    refine hfin _ ?_
    have e : decide ((j.keys.length : Int) = j.list.length) = decide (j.keys.length = j.list.length) := decide_eq_decide.2 Int.natCast_inj
    rw [e]
    simp [shapedB, h5, Bool.and_assoc]
  have h5 : ¬ j.kind = 5 := by simpa using h5
  (refine AWp_skip (hK _ _ ?_); clear hK K; apply sR; intro K hK; refine qr ?_; refine s_nil (hK _ _ ?_); clear hK K; apply AWp_ret)
  exact hfin _ (by simp [shapedB, h0, h1, h2, h3, h4, h5])
theorem rgood_c : ∀ (n : Nat), n ≤ 1000 → ∀ (j : J) (H : AHeap) (Kc : AV → AHeap → Prop), J.Fit j → Kc (.v (.bool (goodB n j))) H → ACall X 105 [.agg j.cells, .v (.int .i64 n)] H Kc := fun n => by
  induction n with
  | zero =>
    intro hn j H Kc hf h
    refine ACall.drop ?_
    rw [J.cells_eq]
    refine ACall_intro Tryz.func105 rfl (by kernel_rfl) (by rw [Tryz.ntmps105]; simp) ?_; rw [Tryz.ntmps105]; simp only [frame0, Nat.reduceAdd]
    apply sR; intro K hK
    apply s_box; decide; exact (by simp only [go_sem]; try rfl); exact (by simp only [go_sem]; try rfl); intro s hs
    (refine qr ?_; refine s_nil (hK _ _ ?_); clear hK K; apply sK; intro K hK; apply sR; intro K hK; (iterate 3 (refine qr ?_)); refine sp ?_)
    generalize hgenq : AHeap.put s _ H = M; obtain ⟨g, hextq⟩ := gen_ex hgenq hs; have hE := hextq; clear hextq hgenq
    (apply s_when (av := (.v (.bool false))); decide; (iterate 3 (simp only [go_sem, g]; rfl)); trivial; (focus (intro hg; first | (cases hg; done) | (simp at hg; done) | (simp at hg; omega))); apply s_spec; decide; rfl; rfl; (iterate 4 (simp only [go_sem, g]; rfl)); trivial; apply s_pick; decide; (iterate 6 (simp only [go_sem, g]; rfl)); trivial; trivial; trivial; refine s_nil (hK _ _ ?_); clear hK K)
    refine cs (fun hc => ?_) (fun hc => ?_)
    · (apply sR; intro K hK; refine qr ?_; refine s_nil (hK _ _ ?_); clear hK K; apply AWp_ret; simp only [AThen, ABlock]; apply end_ret; rfl; simp only [AFr.get, reduceIte, Nat.reduceEqDiff])
      exact ⟨H, hE, h⟩
    · simp at hc
  | succ n ih =>
    intro hn j H Kc hf h
    obtain ⟨⟨f1, f2⟩, f3, f4, f5⟩ := fit_eq.1 hf
    refine ACall.drop ?_
    rw [J.cells_eq]
    refine ACall_intro Tryz.func105 rfl (by kernel_rfl) (by rw [Tryz.ntmps105]; simp) ?_; rw [Tryz.ntmps105]; simp only [frame0, Nat.reduceAdd]
    apply sR; intro K hK
    apply s_box; decide; exact (by simp only [go_sem]; try rfl); exact (by simp only [go_sem]; try rfl); intro s hs
    (refine qr ?_; refine s_nil (hK _ _ ?_); clear hK K; apply sK; intro K hK; apply sR; intro K hK; (iterate 3 (refine qr ?_)); refine sp ?_)
    generalize hgenq : AHeap.put s _ H = M; obtain ⟨g, hextq⟩ := gen_ex hgenq hs; have hE := hextq; clear hextq hgenq
    have hpos : decide (((n + 1 : Nat) : Int) < 1) = false := by rw [decide_eq_false_iff_not]; omega
    have hwn : IntKind.i64.wrap (((n + 1 : Nat) : Int) - 1) = ((n : Nat) : Int) := by rw [wrap64 (by omega)]; omega
    (apply s_gpure; decide; (iterate 3 (simp only [go_sem, g, hpos]; rfl)); trivial; (iterate 2 (simp only [go_sem, g, hpos]; rfl)); (refine ACall.args_eq (bs := [.agg j.cells]) ?_ ?_; (focus (rw [J.cells_eq j]; done)); apply rshape_c j hf; exact ⟨rfl, rfl⟩); apply s_spec; decide; rfl; rfl; (iterate 4 (simp only [go_sem, g, hpos]; rfl)); trivial; apply s_pick; decide; (iterate 6 (simp only [go_sem, g, hpos]; rfl)); trivial; trivial; trivial; refine s_nil (hK _ _ ?_); clear hK K)
    rw [goodB] at h
    refine cs (fun hc => ?_) (fun hc => ?_)
    · have hc : shapedB Lib.validD j = false := by simpa using hc
      rw [hc, Bool.false_and] at h
      (apply sR; intro K hK; refine qr ?_; refine s_nil (hK _ _ ?_); clear hK K; apply AWp_ret; simp only [AThen, ABlock]; apply end_ret; rfl; simp only [AFr.get, reduceIte, Nat.reduceEqDiff])
      exact ⟨H, hE, h⟩
    have hc : shapedB Lib.validD j = true := by simpa using hc
    rw [hc, Bool.true_and] at h
    (refine AWp_skip (hK _ _ ?_); clear hK K; apply sK; intro K hK; apply sR; intro K hK; refine qr ?_; refine s_nil (hK _ _ ?_); clear hK K; apply AWp_block)
    refine AWp_loop_s (σ := Nat) [1, 2, 5] (fun i => [.v (.int .i64 ((n + 1 : Nat) : Int)), ptrTo s, .v (.int .i64 ((i : Nat) : Int))]) (fun _ => M) (fun i => j.list.length - i) (fun i => i ≤ j.list.length ∧ ∀ x ∈ j.list.take i, goodB n x = true) 0 ⟨Nat.zero_le _, by simp⟩ rfl rfl (fun i hi => ?_)
    obtain ⟨h1, h2⟩ := hi
    simp only [List.zip_cons_cons, List.zip_nil_right]
    (apply sK; intro K hK; apply sR; intro K hK; (iterate 5 (apply s_q; decide; rfl; (simp only [go_sem, g]; rfl))); refine s_nil (hK _ _ ?_); clear hK K)
    refine cs (fun hd => ?_) (fun hd => ?_)
    · have hlt : i < j.list.length := by simpa using hd
      obtain ⟨x, hx⟩ := gete hlt
      have hgx := jget_at hx
      have hxm : x ∈ j.list := List.mem_of_getElem? hx
      (refine AWp_skip (hK _ _ ?_); clear hK K; apply sK; intro K hK; apply AWp_block; apply sR; intro K hK; (iterate 7 (apply s_q; decide; rfl; (simp only [go_sem, g, hgx, hwn]; rfl))); apply s_call; decide; (iterate 2 (simp only [go_sem, g, hgx, hwn]; rfl)); refine ACall.args_eq (bs := [.agg x.cells, .v (.int .i64 n)]) ?_ ?_; (focus (rw [J.cells_eq x]; done)); apply ih (by omega) x _ _ (f5 x hxm); apply s_q; decide; rfl; (simp only [go_sem, g, hgx, hwn]; rfl); refine s_nil (hK _ _ ?_); clear hK K)
      refine cs (fun he => ?_) (fun he => ?_)
      · rw [show j.list.all (goodB n) = false by
          rw [Bool.eq_false_iff]; intro hh
          rw [List.all_eq_true.1 hh x hxm] at he; cases he] at h
        (apply sR; intro K hK; refine qr ?_; refine s_nil (hK _ _ ?_); clear hK K; apply AWp_ret; simp only [AThen, ABlock]; apply end_ret; rfl; simp only [AFr.get, reduceIte, Nat.reduceEqDiff])
        exact ⟨H, hE, h⟩
      · have he : goodB n x = true := by simpa using he
        (refine AWp_skip (hK _ _ ?_); clear hK K; apply s_region; (iterate 3 (refine qr ?_)); apply s_nil; simp only [AThen, ABlock])
        refine ⟨i + 1, by omega, ⟨by omega, fun y hy => ?_⟩, ?_, by trivial⟩
        · rw [take_succ hx, List.mem_append, List.mem_singleton] at hy
          rcases hy with hy | rfl
          · exact h2 y hy
          · exact he
        · simp only [getAll, List.map, AFr.get, reduceIte, Nat.reduceEqDiff]
          rw [wrapS hlt (by omega)]; try rfl
    · have hge : j.list.length ≤ i := by simpa using hd
      rw [List.take_of_length_le hge] at h2
      rw [List.all_eq_true.2 h2] at h
      (apply AWp_exit; simp only [AThen, ABlock, reduceIte, Nat.reduceEqDiff]; clear hK K; refine hK _ _ ?_; clear hK K; apply sR; intro K hK; refine qr ?_; refine s_nil (hK _ _ ?_); clear hK K; apply AWp_ret)
      exact ⟨H, hE, h⟩
theorem rGood_c (j : J) (H : AHeap) (Kc : AV → AHeap → Prop) (hf : J.Fit j) (h : Kc (.v (.bool (goodB 12 j))) H) : ACall X 71 [.agg j.cells] H Kc := by
  refine ACall.drop ?_
  rw [J.cells_eq]
  refine ACall_intro Tryz.func71 rfl (by kernel_rfl) (by rw [Tryz.ntmps71]; simp) ?_; rw [Tryz.ntmps71]; simp only [frame0, Nat.reduceAdd]
  apply sR; intro K hK
  apply s_box; decide; exact (by simp only [go_sem]; try rfl); exact (by simp only [go_sem]; try rfl); intro s hs
  (refine qr ?_; refine s_nil (hK _ _ ?_); clear hK K; apply sR; intro K hK; refine qr ?_)
  generalize hgenq : AHeap.put s _ H = M; obtain ⟨g, hextq⟩ := gen_ex hgenq hs; have hE := hextq; clear hextq hgenq
  (apply s_call; decide; (iterate 2 (simp only [go_sem, g]; rfl)); refine ACall.args_eq (bs := [.agg j.cells, .v (.int .i64 ((12 : Nat) : Int))]) (by rw [J.cells_eq j]; rfl) ?_; apply rgood_c 12 (by decide) j _ _ hf; apply s_q; decide; rfl; (simp only [go_sem, g]; rfl); refine s_nil (hK _ _ ?_); clear hK K; apply AWp_ret)
  exact ⟨H, hE, h⟩

theorem pl_nodup (ks : List (List UInt8)) : (placesOf ks).Nodup := (places_perm ks).nodup_iff.2 List.nodup_range
theorem pl_mem {ks : List (List UInt8)} {i : Nat} (h : i < ks.length) : i ∈ placesOf ks := (places_perm ks).mem_iff.2 (List.mem_range.2 h)
theorem place_min {ks : List (List UInt8)} (hn : ks.Nodup) {n b : Nat} (hlt : n < ks.length) (hb : b < ks.length) (hbn : b ∉ (placesOf ks).take n) (hmin : ∀ k, k < ks.length → k ∉ (placesOf ks).take n → ks.getD b [] ≤ ks.getD k []) : (placesOf ks)[n]? = some b := by
  have hl := places_len ks
  have hbm := pl_mem hb
  obtain ⟨m, hm, he⟩ := List.mem_iff_getElem.1 hbm
  have hnm : n ≤ m := by
    rcases Nat.lt_or_ge m n with h | h
    · exact absurd (List.mem_take_iff_getElem.2 ⟨m, by omega, he⟩) hbn
    · exact h
  obtain ⟨a, ha⟩ := gete (l := placesOf ks) (i := n) (by omega)
  have ham := List.mem_of_getElem? ha
  have han : a ∉ (placesOf ks).take n := fun h => by
    obtain ⟨k, hk, hke⟩ := List.mem_take_iff_getElem.1 h
    have h2 := (List.getElem?_eq_some_iff.1 ha)
    obtain ⟨h3, h4⟩ := h2
    have := (List.getElem_inj (pl_nodup ks)).1 (hke.trans h4.symm)
    omega
  have h1 := hmin a (places_lt ham) han
  have h2 : ks.getD a [] ≤ ks.getD b [] := by
    rcases Nat.lt_or_eq_of_le hnm with h | h
    · have hp := places_sorted ks
      rw [List.pairwise_iff_getElem] at hp
      have := hp n m (by omega) hm h
      rw [he] at this
      rw [(List.getElem?_eq_some_iff.1 ha).2] at this
      exact this
    · subst h
      rw [List.getElem?_eq_getElem hm, he] at ha
      cases ha
      exact List.le_refl _
  have := nodup_getD hn (places_lt ham) hb (List.le_antisymm h2 h1)
  rw [ha, this]
theorem _root_.Go.AL.RowAt.set {e sz e' sz' c : Nat} {sn : Bool} {es0 : List (List AV)} {H0 L : AHeap} {es : List (List AV)} {a : AV} (h : RowAt e sz H0 L es a) (hc : L.get c = some (.row e' sz' sn es0)) (o' : AObj) (he : e ≠ e') : RowAt e sz H0 (L.put c o') es a := by
  rcases h with h | ⟨b, h1, h2, h3⟩
  · exact .inl h
  · refine .inr ⟨b, h1, h2, ?_⟩
    rw [AHeap.get_put]
    split
    · rename_i e1; subst e1; rw [hc] at h3; cases h3; exact absurd rfl he
    · exact h3
def boolCells (b : Bool) : List AV := [.v (.bool b)]
abbrev doneRow (ks : List (List UInt8)) (n : Nat) : AObj := .row 4 1 false ((List.range ks.length).map fun k => boolCells (decide (k ∈ (placesOf ks).take n)))
def lstI : Option Nat → Int
  | none => -1
  | some b => (b : Int)
def lstOk (ks : List (List UInt8)) (m i : Nat) : Option Nat → Prop
  | none => ∀ k, k < i → k ∈ (placesOf ks).take m
  | some b => b < i ∧ b ∉ (placesOf ks).take m ∧ ∀ k, k < i → k ∉ (placesOf ks).take m → ks.getD b [] ≤ ks.getD k []
set_option maxHeartbeats 8000000 in
theorem rorder_c : ∀ (n : Nat) (j : J), goodB n j = true → J.Fit j → ∀ (H : AHeap) (Kc : AV → AHeap → Prop), Kc (.agg j.ord.cells) H → ACall X 141 [.agg j.cells] H Kc := fun n => by
  induction n with
  | zero => intro j h; cases h
  | succ n ih =>
  intro j hg hf H Kc h
  obtain ⟨⟨f1, f1'⟩, f2, f3, f4⟩ := fit_eq.1 hf
  have hsh := good_shaped hg
  have hch : ∀ x ∈ j.list, goodB n x = true := by
    simp only [goodB, Bool.and_eq_true, List.all_eq_true] at hg; exact hg.2
  refine ACall.post ?_
  rw [J.cells_eq]
  refine ACall_intro Tryz.func141 rfl (by kernel_rfl) (by rw [Tryz.ntmps141]; simp) ?_; rw [Tryz.ntmps141]; simp only [frame0, Nat.reduceAdd]
  apply sR; intro K hK
  apply s_box; decide; exact (by simp only [go_sem]; try rfl); exact (by simp only [go_sem]; try rfl); intro p hp
  apply s_alloc; decide; exact zc_json; intro r hr
  refine s_nil (hK _ _ ?_); clear hK K
  have g1 := get_fresh (AHeap.get_put_same p (jbox j.kind j.int j.text (.sl false (j.keys.map strCells)) (.sl false (j.list.map J.cells))) H) hr (x := jbox 0 0 [] (.sl true []) (.sl true []))
  have g2 := AHeap.get_put_same r (jbox 0 0 [] (.sl true []) (.sl true [])) (H.put p (jbox j.kind j.int j.text (.sl false (j.keys.map strCells)) (.sl false (j.list.map J.cells))))
  have g3 := (Ext.fresh hp (o := jbox j.kind j.int j.text (.sl false (j.keys.map strCells)) (.sl false (j.list.map J.cells)))).put hr (ob := jbox 0 0 [] (.sl true []) (.sl true []))
  have hHr : H.get r = none := none_fresh hr
  generalize (H.put p (jbox j.kind j.int j.text (.sl false (j.keys.map strCells)) (.sl false (j.list.map J.cells)))).put r (jbox 0 0 [] (.sl true []) (.sl true [])) = M at g1 g2 g3 ⊢
  apply sR; intro K hK
  ((iterate 7 (apply s_q; decide; rfl; (simp only [go_sem, g1]; rfl))); apply s_alloc; decide; exact zc_25; intro b hb; apply s_store; (iterate 3 (simp only [go_sem, g1]; rfl)))
  refine s_nil (hK _ _ ?_); clear hK K
  obtain ⟨o, hoe⟩ : ∃ b3, b3 = b := ⟨_, rfl⟩
  have ho := hb
  rw [← hoe] at ho ⊢
  clear hb hoe b
  have k1 := get_fresh g1 ho (x := jbox j.kind j.int j.text (.sl true []) (.sl true []))
  have k2 := get_fresh g2 ho (x := jbox j.kind j.int j.text (.sl true []) (.sl true []))
  have k3 := AHeap.get_put_same o (jbox j.kind j.int j.text (.sl true []) (.sl true [])) M
  have k4 := g3.put ho (ob := jbox j.kind j.int j.text (.sl true []) (.sl true []))
  have hHo : H.get o = none := none_of_ext g3 ho
  have hpo := get_ne_fresh g1 ho
  have hro := get_ne_fresh g2 ho
  generalize M.put o (jbox j.kind j.int j.text (.sl true []) (.sl true [])) = M2 at k1 k2 k3 k4 ⊢
  clear g1 g2 g3 ho M
  refine AWp_seq_k (fun K0 hK0 => ?_)
  have hgo : ∀ (ys : List J) (c : AV) (L : AHeap), (j.keys = [] → j.ord = .mk j.kind j.int j.text [] ys) → (¬ j.keys = [] → j.kind = 5 ∧ ys = []) → ys.length ≤ 1000000000 → Ext H L → L.get p = some (jbox j.kind j.int j.text (.sl false (j.keys.map strCells)) (.sl false (j.list.map J.cells))) → L.get r = some (jbox 0 0 [] (.sl true []) (.sl true [])) →
      L.get o = some (jbox j.kind j.int j.text (.sl true []) c) → RowAt 25 5 H L (ys.map J.cells) c → ∀ fr, getAll [1, 2, 3] fr = [ptrTo p, ptrTo r, ptrTo o] → K0 fr L := fun ys c L hnil hcons hys hE hpL hrL hoL hR fr hfr => by
    refine hK0 _ _ (AWp_cut _ hfr ?_)
    simp only [List.zip_cons_cons, List.zip_nil_right]
    clear k1 k2 k3 k4 hK0
    have hll : (j.keys.map strCells).length = j.keys.length := List.length_map ..
    obtain ⟨N, hN⟩ : ∃ N, N = j.keys.length := ⟨_, rfl⟩
    apply sR; intro K hK
    ((iterate 3 (apply s_q; decide; rfl; (simp only [go_sem, hpL]; rfl))))
    rw [← hN]
    apply s_make; decide; exact el_33; exact (by simp only [go_sem]; try rfl); exact (by simp only [go_sem]; try rfl); exact zc_4; (refine ⟨by omega, by omega, by decide⟩); intro q hq
    have hHq : H.get q = none := none_of_ext hE hq
    have hpq := get_ne_fresh hpL hq
    have hrq := get_ne_fresh hrL hq
    have hoq := get_ne_fresh hoL hq
    generalize hgenq : AHeap.put q _ L = L0
    obtain ⟨hqL0, hextq⟩ := gen_ex hgenq hq
    have hpL0 := hextq _ _ hpL
    have hrL0 := hextq _ _ hrL
    have hoL0 := hextq _ _ hoL
    have hE0 := hE.trans hextq
    have hR0 := hR.ext hextq
    rw [Int.toNat_natCast, range_const] at hqL0
    clear hextq hgenq hpL hrL hoL hE hR hq
    (refine qr ?_; refine s_nil (hK _ _ ?_); clear hK K; apply sK; intro K hK; apply sR; intro K hK; refine qr ?_; refine s_nil (hK _ _ ?_); clear hK K; apply AWp_block)
    have hpll := places_len j.keys
    have hconv : (∀ i, i < j.keys.length → j.kind = 5) := fun i hi => (hcons (by rintro h; rw [h] at hi; cases hi)).1
    have hys2 : (∀ i, i < j.keys.length → ys = []) := fun i hi => (hcons (by rintro h; rw [h] at hi; cases hi)).2
    refine AWp_loop_s (σ := Nat × AV × AV × AHeap) [1, 2, 3, 5, 6] (fun s => [ptrTo p, ptrTo r, ptrTo o, .row q 1 N, .v (.int .i64 ((s.1 : Nat) : Int))]) (fun s => s.2.2.2) (fun s => N - s.1)
      (fun s => s.1 ≤ N ∧ Ext H s.2.2.2 ∧ s.2.2.2.get p = some (jbox j.kind j.int j.text (.sl false (j.keys.map strCells)) (.sl false (j.list.map J.cells))) ∧ s.2.2.2.get r = some (jbox 0 0 [] (.sl true []) (.sl true [])) ∧ s.2.2.2.get o = some (jbox j.kind j.int j.text s.2.1 s.2.2.1) ∧
        s.2.2.2.get q = some (doneRow j.keys s.1) ∧ RowAt 9 1 H s.2.2.2 ((((placesOf j.keys).take s.1).map fun i => j.keys.getD i []).map strCells) s.2.1 ∧ RowAt 25 5 H s.2.2.2 ((ys ++ ((placesOf j.keys).take s.1).map fun i => (j.list.map J.ord).getD i (.mk 0 0 [] [] [])).map J.cells) s.2.2.1)
      (0, .sl true [], c, L0) ⟨Nat.zero_le _, hE0, hpL0, hrL0, hoL0, ?_, RowAt.nil _ _ _ _, by simpa using hR0⟩ rfl rfl (fun s hs => ?_)
    · rw [hqL0, hN]
      simp only [doneRow, List.take_zero, List.not_mem_nil, decide_false, boolCells]
    obtain ⟨m, a, c, L⟩ := s
    obtain ⟨hm, hE, hpL, hrL, hoL, hqL, hRa, hRc⟩ := hs
    clear hpL0 hrL0 hoL0 hE0 hR0 hqL0
    simp only [List.zip_cons_cons, List.zip_nil_right] at hm hE hpL hrL hoL hqL hRa hRc ⊢
    (apply sK; intro K hK; apply sR; intro K hK; (iterate 5 (apply s_q; decide; rfl; (simp only [go_sem, hpL]; rfl))); refine s_nil (hK _ _ ?_); clear hK K)
    refine cs (fun hd => ?_) (fun hd => ?_)
    · have hlt : m < N := by simp at hd; omega
      have h5 := hconv 0 (by omega)
      obtain rfl := hys2 0 (by omega)
      obtain ⟨s1, s2, s3⟩ := shaped_map hsh h5
      simp only [List.nil_append] at hRc
      (refine AWp_skip (hK _ _ ?_); clear hK K; apply sK; intro K hK; apply AWp_block; apply sR; intro K hK; refine qr ?_; refine s_nil (hK _ _ ?_); clear hK K; apply sK; intro K hK; apply sR; intro K hK; refine qr ?_; refine s_nil (hK _ _ ?_); clear hK K; apply AWp_block)
      refine AWp_loop_s (σ := Nat × Option Nat) [1, 2, 3, 5, 6, 7, 8] (fun s => [ptrTo p, ptrTo r, ptrTo o, .row q 1 N, .v (.int .i64 ((m : Nat) : Int)), .v (.int .i64 (lstI s.2)), .v (.int .i64 ((s.1 : Nat) : Int))]) (fun _ => L) (fun s => N - s.1)
        (fun s => s.1 ≤ N ∧ lstOk j.keys m s.1 s.2) (0, none) ⟨Nat.zero_le _, fun k hk => absurd hk (Nat.not_lt_zero k)⟩ rfl rfl (fun s hs => ?_)
      obtain ⟨i, w⟩ := s
      obtain ⟨hi, hw⟩ := hs
      simp only [List.zip_cons_cons, List.zip_nil_right] at hi hw ⊢
      (apply sK; intro K hK; apply sR; intro K hK; (iterate 5 (apply s_q; decide; rfl; (simp only [go_sem, hpL]; rfl))); refine s_nil (hK _ _ ?_); clear hK K)
      refine cs (fun he => ?_) (fun he => ?_)
      · have hli : i < N := by simp at he; omega
        have hgq : ((List.range j.keys.length).map fun k => boolCells (decide (k ∈ (placesOf j.keys).take m)))[i]? = some [.v (.bool (decide (i ∈ (placesOf j.keys).take m)))] := get_range (fun k => boolCells (decide (k ∈ (placesOf j.keys).take m))) (by omega)
        obtain ⟨ky, hky⟩ := gete (l := j.keys) (i := i) (by omega)
        have hgk := jstr_at hky
        have hkd : j.keys.getD i [] = ky := by rw [List.getD_eq_getElem?_getD, hky]; rfl
        have hlN : ((i : Int) < (N : Int)) = True := by simp; omega
        by_cases hD : i ∈ (placesOf j.keys).take m
        · rw [decide_eq_true hD] at hgq
          (refine AWp_skip (hK _ _ ?_); clear hK K; apply sK; intro K hK; apply AWp_block; apply sK; intro K hK)
          apply AWp_drawA [0, 1, 2, 3, 4, 5, 6, 7, 8, 9, 10, 11, 12, 13, 14, 15, 16, 17, 18, 19, 20, 21] [] 0 (by exact mixed); kernel_rfl; (iterate 2 (simp only [go_sem]; rfl))
          ((iterate 6 (apply e_q; decide; (simp only [go_sem, hqL, hgq, hlN]; rfl))); (iterate 4 (apply e_spec; decide; (iterate 4 (simp only [go_sem, hqL, hgq, hlN]; rfl)); trivial)); apply e_when (av := (.v (.bool false))); decide; (iterate 3 (simp only [go_sem, hqL, hgq, hlN]; rfl)); trivial; (focus (intro hg; first | (cases hg; done) | (simp at hg; done) | (simp at hg; omega))); apply e_spec; decide; (iterate 4 (simp only [go_sem, hqL, hgq, hlN]; rfl)); trivial; (iterate 2 (apply e_when (av := (.v (.bool false))); decide; (iterate 3 (simp only [go_sem, hqL, hgq, hlN]; rfl)); trivial; (focus (intro hg; first | (cases hg; done) | (simp at hg; done) | (simp at hg; omega))))); apply e_spec; decide; (iterate 4 (simp only [go_sem, hqL, hgq, hlN]; rfl)); trivial; apply e_when (av := (.v (.bool false))); decide; (iterate 3 (simp only [go_sem, hqL, hgq, hlN]; rfl)); trivial; (focus (intro hg; first | (cases hg; done) | (simp at hg; done) | (simp at hg; omega))); apply e_spec; decide; (iterate 4 (simp only [go_sem, hqL, hgq, hlN]; rfl)); trivial; (iterate 3 (apply e_when (av := (.v (.bool false))); decide; (iterate 3 (simp only [go_sem, hqL, hgq, hlN]; rfl)); trivial; (focus (intro hg; first | (cases hg; done) | (simp at hg; done) | (simp at hg; omega))))); apply e_pickg; decide; (iterate 8 (simp only [go_sem, hqL, hgq, hlN]; rfl)); trivial; trivial; simp [condsOk]; apply e_pick; decide; (iterate 6 (simp only [go_sem, hqL, hgq, hlN]; rfl)); trivial; trivial; trivial; apply e_nil; refine t_nil (hK _ _ ?_); clear hK K)
          refine cs (fun hf => ?_) (fun hf => ?_)
          · simp at hf
          (refine AWp_skip (hK _ _ ?_); clear hK K; apply s_region; (iterate 3 (refine qr ?_)); apply s_nil; simp only [AThen, ABlock])
          refine ⟨(i + 1, w), by simp only; omega, ⟨by simp only; omega, ?_⟩, ?_, by trivial⟩
          · cases w with
            | none => intro k hk; rcases Nat.lt_succ_iff_lt_or_eq.1 hk with hk | rfl; exact hw k hk; exact hD
            | some b => exact ⟨by have := hw.1; omega, hw.2.1, fun k hk hkn => by rcases Nat.lt_succ_iff_lt_or_eq.1 hk with hk | rfl; exact hw.2.2 k hk hkn; exact absurd hD hkn⟩
          · simp only [getAll, List.map, AFr.get, reduceIte, Nat.reduceEqDiff]
            rw [wrapS hli (by omega)]; try rfl
        · rw [decide_eq_false hD] at hgq
          cases w with
          | none =>
            (refine AWp_skip (hK _ _ ?_); clear hK K; apply sK; intro K hK; apply AWp_block; apply sK; intro K hK)
            apply AWp_drawA [0, 1, 2, 3, 4, 5, 6, 7, 8, 9, 10, 11, 12, 13, 14, 15, 16, 17, 18, 19, 20, 21] [] 0 (by exact mixed); kernel_rfl; (iterate 2 (simp only [go_sem]; rfl))
            ((iterate 6 (apply e_q; decide; (simp only [go_sem, hqL, hgq, hlN, lstI]; rfl))); (iterate 4 (apply e_spec; decide; (iterate 4 (simp only [go_sem, hqL, hgq, hlN, lstI]; rfl)); trivial)); apply e_when (av := (.v (.bool false))); decide; (iterate 3 (simp only [go_sem, hqL, hgq, hlN, lstI]; rfl)); trivial; (focus (intro hg; first | (cases hg; done) | (simp at hg; done) | (simp at hg; omega))); apply e_spec; decide; (iterate 4 (simp only [go_sem, hqL, hgq, hlN, lstI]; rfl)); trivial; (iterate 2 (apply e_when (av := (.v (.bool false))); decide; (iterate 3 (simp only [go_sem, hqL, hgq, hlN, lstI]; rfl)); trivial; (focus (intro hg; first | (cases hg; done) | (simp at hg; done) | (simp at hg; omega))))); apply e_spec; decide; (iterate 4 (simp only [go_sem, hqL, hgq, hlN, lstI]; rfl)); trivial; apply e_when (av := (.v (.bool false))); decide; (iterate 3 (simp only [go_sem, hqL, hgq, hlN, lstI]; rfl)); trivial; (focus (intro hg; first | (cases hg; done) | (simp at hg; done) | (simp at hg; omega))); apply e_spec; decide; (iterate 4 (simp only [go_sem, hqL, hgq, hlN, lstI]; rfl)); trivial; (iterate 3 (apply e_when (av := (.v (.bool false))); decide; (iterate 3 (simp only [go_sem, hqL, hgq, hlN, lstI]; rfl)); trivial; (focus (intro hg; first | (cases hg; done) | (simp at hg; done) | (simp at hg; omega))))); apply e_pickg; decide; (iterate 8 (simp only [go_sem, hqL, hgq, hlN, lstI]; rfl)); trivial; trivial; trivial; apply e_pick; decide; (iterate 6 (simp only [go_sem, hqL, hgq, hlN, lstI]; rfl)); trivial; trivial; trivial; apply e_nil; refine t_nil (hK _ _ ?_); clear hK K)
            refine cs (fun hf => ?_) (fun hf => ?_)
            · (apply s_region; (iterate 2 (refine qr ?_)); refine s_nil (hK _ _ ?_); clear hK K; apply s_region; (iterate 3 (refine qr ?_)); apply s_nil; simp only [AThen, ABlock])
              refine ⟨(i + 1, some i), by simp only; omega, ⟨by simp only; omega, by omega, hD, fun k hk hkn => ?_⟩, ?_, by trivial⟩
              · rcases Nat.lt_succ_iff_lt_or_eq.1 hk with hk | rfl
                · exact absurd (hw k hk) hkn
                · exact List.le_refl _
              · simp only [getAll, List.map, AFr.get, reduceIte, Nat.reduceEqDiff]
                rw [wrapS hli (by omega)]; try rfl
            · simp at hf
          | some b =>
            obtain ⟨w1, w2, w3⟩ := hw
            obtain ⟨kb, hkb⟩ := gete (l := j.keys) (i := b) (by omega)
            have hgb := jstr_at hkb
            have hbd : j.keys.getD b [] = kb := by rw [List.getD_eq_getElem?_getD, hkb]; rfl
            have hbl : decide (((b : Nat) : Int) < 0) = false := by rw [decide_eq_false_iff_not]; omega
            (refine AWp_skip (hK _ _ ?_); clear hK K; apply sK; intro K hK; apply AWp_block; apply sK; intro K hK)
            apply AWp_drawA [0, 1, 2, 3, 4, 5, 6, 7, 8, 9, 10, 11, 12, 13, 14, 15, 16, 17, 18, 19, 20, 21] [] 0 (by exact mixed); kernel_rfl; (iterate 2 (simp only [go_sem]; rfl))
            ((iterate 6 (apply e_q; decide; (simp only [go_sem, hqL, hgq, hlN, lstI, hbl]; rfl))); (iterate 4 (apply e_spec; decide; (iterate 4 (simp only [go_sem, hqL, hgq, hlN, lstI, hbl]; rfl)); trivial)); apply e_when; decide; (iterate 3 (simp only [go_sem, hqL, hgq, hlN, lstI, hbl]; rfl)); trivial; (intro hg; simp only [go_sem, hpL, hgk, hgb, lstI]; try rfl); apply e_spec; decide; (iterate 4 (simp only [go_sem, hqL, hgq, hlN, lstI, hbl]; rfl)); trivial; apply e_when; decide; (iterate 3 (simp only [go_sem, hqL, hgq, hlN, lstI, hbl]; rfl)); trivial; (intro hg; simp only [go_sem, hpL, hgk, hgb, lstI]; try rfl); (iterate 2 (apply e_spec; decide; (iterate 4 (simp only [go_sem, hqL, hgq, hlN, lstI, hbl]; rfl)); trivial)); apply e_when; decide; (iterate 3 (simp only [go_sem, hqL, hgq, hlN, lstI, hbl]; rfl)); trivial; (intro hg; simp only [go_sem, hpL, hgk, hgb, lstI]; try rfl); apply e_spec; decide; (iterate 4 (simp only [go_sem, hqL, hgq, hlN, lstI, hbl]; rfl)); trivial; apply e_when; decide; (iterate 3 (simp only [go_sem, hqL, hgq, hlN, lstI, hbl]; rfl)); trivial; (intro hg; simp only [go_sem, hpL, hgk, hgb, lstI]; try rfl); (iterate 2 (apply e_spec; decide; (iterate 4 (simp only [go_sem, hqL, hgq, hlN, lstI, hbl]; rfl)); trivial)); apply e_pickg; decide; (iterate 8 (simp only [go_sem, hqL, hgq, hlN, lstI, hbl]; rfl)); trivial; trivial; trivial; apply e_pick; decide; (iterate 6 (simp only [go_sem, hqL, hgq, hlN, lstI, hbl]; rfl)); trivial; trivial; trivial; apply e_nil; refine t_nil (hK _ _ ?_); clear hK K)
            refine cs (fun hf => ?_) (fun hf => ?_)
            · have hf : blt ky kb = true := by simpa using hf
              rw [blt_eq] at hf
              have hf : ky < kb := by simpa using hf
              (apply s_region; (iterate 2 (refine qr ?_)); refine s_nil (hK _ _ ?_); clear hK K; apply s_region; (iterate 3 (refine qr ?_)); apply s_nil; simp only [AThen, ABlock])
              refine ⟨(i + 1, some i), by simp only; omega, ⟨by simp only; omega, by omega, hD, fun k hk hkn => ?_⟩, ?_, by trivial⟩
              · rcases Nat.lt_succ_iff_lt_or_eq.1 hk with hk | rfl
                · rw [hkd]; rw [hbd] at w3; exact List.le_trans (List.le_of_lt hf) (w3 k hk hkn)
                · exact List.le_refl _
              · simp only [getAll, List.map, AFr.get, reduceIte, Nat.reduceEqDiff]
                rw [wrapS hli (by omega)]; try rfl
            · have hf : blt ky kb = false := by simpa using hf
              rw [blt_eq] at hf
              have hf : ¬ ky < kb := by simpa using hf
              (refine AWp_skip (hK _ _ ?_); clear hK K; apply s_region; (iterate 3 (refine qr ?_)); apply s_nil; simp only [AThen, ABlock])
              refine ⟨(i + 1, some b), by simp only; omega, ⟨by simp only; omega, by omega, w2, fun k hk hkn => ?_⟩, ?_, by trivial⟩
              · rcases Nat.lt_succ_iff_lt_or_eq.1 hk with hk | rfl
                · exact w3 k hk hkn
                · rw [hbd, hkd]; exact List.not_lt.1 hf
              · simp only [getAll, List.map, AFr.get, reduceIte, Nat.reduceEqDiff]
                rw [wrapS hli (by omega)]; try rfl
      · have hiN : i = N := by simp at he; omega
        subst hiN
        have hpm : (placesOf j.keys).length = i := by omega
        obtain ⟨a0, ha0⟩ := gete (l := placesOf j.keys) (i := m) (by omega)
        have ham := List.mem_of_getElem? ha0
        have han : a0 ∉ (placesOf j.keys).take m := fun h => by
          obtain ⟨k, hk, hke⟩ := List.mem_take_iff_getElem.1 h
          obtain ⟨h3, h4⟩ := List.getElem?_eq_some_iff.1 ha0
          have := (List.getElem_inj (pl_nodup j.keys)).1 (hke.trans h4.symm)
          omega
        cases w with
        | none => exact absurd (hw a0 (by have := places_lt ham; omega)) han
        | some b =>
          obtain ⟨w1, w2, w3⟩ := hw
          have hib := place_min s2 (n := m) (b := b) (by omega) (by omega) w2 (fun k hk hkn => w3 k (by omega) hkn)
          clear ha0 ham han
          have hgq : (b : Int) < (i : Int) := by omega
          have hlN : ((b : Int) < (i : Int)) = True := by simp; omega
          obtain ⟨ky, hky⟩ := gete (l := j.keys) (i := b) (by omega)
          have hgk := jstr_at hky
          obtain ⟨x, hx⟩ := gete (l := j.list) (i := b) (by omega)
          have hgx := jget_at hx
          have hxm := List.mem_of_getElem? hx
          have hc5 := J.cells_eq x.ord
          have hgr : ((List.range j.keys.length).map fun k => boolCells (decide (k ∈ (placesOf j.keys).take m)))[b]? = some [.v (.bool (decide (b ∈ (placesOf j.keys).take m)))] := get_range (fun k => boolCells (decide (k ∈ (placesOf j.keys).take m))) (by omega)
          have e1 : ((placesOf j.keys).take (m + 1)).map (fun i => j.keys.getD i []) = ((placesOf j.keys).take m).map (fun i => j.keys.getD i []) ++ [ky] := by
            rw [take_succ hib, List.map_append, List.map_singleton, List.getD_eq_getElem?_getD, hky]; rfl
          have e2 : ((placesOf j.keys).take (m + 1)).map (fun i => (j.list.map J.ord).getD i (.mk 0 0 [] [] [])) = ((placesOf j.keys).take m).map (fun i => (j.list.map J.ord).getD i (.mk 0 0 [] [] [])) ++ [x.ord] := by
            rw [take_succ hib, List.map_append, List.map_singleton, List.getD_eq_getElem?_getD, List.getElem?_map, hx]; rfl
          have e3 : ((List.range j.keys.length).map fun k => boolCells (decide (k ∈ (placesOf j.keys).take m))).set b [.v (.bool true)] = (List.range j.keys.length).map fun k => boolCells (decide (k ∈ (placesOf j.keys).take (m + 1))) := by
            rw [set_range]
            refine List.map_congr_left fun k _ => ?_
            rw [take_succ hib, boolCells, boolCells]
            by_cases hk : k = b
            · subst hk; simp
            · simp [hk]
          obtain ⟨us, hus⟩ : ∃ us, ((placesOf j.keys).take m).map (fun i => j.keys.getD i []) = us := ⟨_, rfl⟩
          obtain ⟨vs, hvs⟩ : ∃ vs, ((placesOf j.keys).take m).map (fun i => (j.list.map J.ord).getD i (.mk 0 0 [] [] [])) = vs := ⟨_, rfl⟩
          have hul : us.length ≤ 1000000000 := by rw [← hus]; simp; omega
          have hvl : vs.length ≤ 1000000000 := by rw [← hvs]; simp; omega
          rw [hus] at hRa e1
          rw [hvs] at hRc e2
          apply AWp_exit; simp only [AThen, ABlock, reduceIte, Nat.reduceEqDiff]; clear hK K; refine hK _ _ ?_; clear hK K
          apply sR; intro K hK
          ((iterate 3 (apply s_q; decide; rfl; (simp only [go_sem, lstI, hqL, hlN, hgr]; rfl))); apply s_store; (iterate 3 (simp only [go_sem, lstI, hqL, hlN, hgr]; rfl)))
          refine s_nil (hK _ _ ?_); clear hK K
          have hqo : q ≠ o := hoq.symm
          have hq1 : (L.put q (doneRow j.keys (m + 1))).get q = some (doneRow j.keys (m + 1)) := AHeap.get_put_same _ _ _
          have hp1 := get_other (x := doneRow j.keys (m + 1)) hpL hpq
          have hr1 := get_other (x := doneRow j.keys (m + 1)) hrL hrq
          have ho1 := get_other (x := doneRow j.keys (m + 1)) hoL hoq
          have hE1 := hE.over hHq (o := doneRow j.keys (m + 1))
          have hRa1 := hRa.set hqL (doneRow j.keys (m + 1)) (by decide)
          have hRc1 := hRc.set hqL (doneRow j.keys (m + 1)) (by decide)
          rw [e3]
          generalize L.put q (doneRow j.keys (m + 1)) = L0 at hq1 hp1 hr1 ho1 hE1 hRa1 hRc1 ⊢
          have nb : ∀ {e : Nat} {sz' : Nat} {sn' : Bool} {es' : List (List AV)}, ¬ 4 = e → doneRow j.keys (m + 1) ≠ .row e sz' sn' es' := fun hne h => by
            injection h with h1 h2 h3 h4; exact hne h1
          have pLs := less_get (e := 9) hp1 (fun _ _ _ h => by cases h)
          have oLs := less_get (e := 9) ho1 (fun _ _ _ h => by cases h)
          (apply sK; intro K hK)
          apply AWp_drawAH [0, 1, 2, 3, 4, 5, 6, 7, 9] [8, 10] 1 (less_ext 9 L0) (by exact mixed); kernel_rfl; (iterate 2 (simp only [go_sem]; rfl))
          ((iterate 7 (apply e_q; decide; (simp only [go_sem, pLs, oLs, hgk, lstI]; rfl))); apply e_lit; decide; exact el_22; (iterate 2 (simp only [go_sem, pLs, oLs, hgk, lstI]; rfl)); decide; apply e_q; decide; (simp only [go_sem, pLs, oLs, hgk, lstI]; rfl); apply e_nil; apply t_append; decide; (iterate 2 (simp only [go_sem, pLs, oLs, hgk, lstI]; rfl)); apply AApp_at el_22 hE1 hRa1 (l := us) (m := [ky]) (g := strCells) rfl rfl tk_22 str_one (by simp; omega) (by simp; omega); intro s1 L1 ra rb rc; have hx1 := rc.less; refine ⟨by (intro _; assumption), ?_⟩)
          have w1 := rc o _ ho1 (fun _ _ _ h => by cases h)
          have w2 := rc r _ hr1 (fun _ _ _ h => by cases h)
          have w3 := rc p _ hp1 (fun _ _ _ h => by cases h)
          have w5 := rc q _ hq1 (fun _ _ _ => nb (by decide))
          have w4 := rc.row (by decide) hRc1
          obtain ⟨b1, hb1, rfl, hb1g⟩ := ra.row (by simp)
          have ra' : RowAt 9 1 H L1 _ _ := .inr ⟨b1, hb1, rfl, hb1g⟩
          (apply t_storex; (iterate 3 (simp only [go_sem, w1]; rfl)); (first | (intro _; exact Ext.put (Ext.refl _) (by assumption)) | (intro h; exact absurd h (by decide)) | (intro _; exact Ext.put (by assumption) (by assumption)) | (intro _; refine Ext.over (c := _) ?_ ?_ <;> assumption)); refine t_nil (hK _ _ ?_); clear hK K)
          have q1 := ra'.put (o' := jbox j.kind j.int j.text (.row b1 1 (us ++ [ky]).length) c) w1 (fun _ _ _ h => by cases h)
          have q2 := w4.put (o' := jbox j.kind j.int j.text (.row b1 1 (us ++ [ky]).length) c) w1 (fun _ _ _ h => by cases h)
          have q3 := AHeap.get_put_same o (jbox j.kind j.int j.text (.row b1 1 (us ++ [ky]).length) c) L1
          have q4 := get_other (x := jbox j.kind j.int j.text (.row b1 1 (us ++ [ky]).length) c) w2 hro
          have q5 := get_other (x := jbox j.kind j.int j.text (.row b1 1 (us ++ [ky]).length) c) w3 hpo
          have q7 := get_other (x := jbox j.kind j.int j.text (.row b1 1 (us ++ [ky]).length) c) w5 hqo
          have q6 := rb.over hHo (o := jbox j.kind j.int j.text (.row b1 1 (us ++ [ky]).length) c)
          simp only [List.length_map] at q1
          generalize L1.put o (jbox j.kind j.int j.text (.row b1 1 (us ++ [ky]).length) c) = L2 at q1 q2 q3 q4 q5 q6 q7 ⊢
          clear w1 w2 w3 w4 w5 ra ra' rb rc hx1 hb1g pLs oLs
          have pLs := less_get (e := 25) q5 (fun _ _ _ h => by cases h)
          have oLs := less_get (e := 25) q3 (fun _ _ _ h => by cases h)
          apply AWp_drawAH [0, 1, 2, 3, 4, 5, 6, 7, 8, 10] [9, 11] 1 (less_ext 25 L2) (by exact mixed); kernel_rfl; (iterate 2 (simp only [go_sem]; rfl))
          ((iterate 7 (apply e_q; decide; (simp only [go_sem, pLs, oLs, hgx, hc5, lstI]; rfl))); apply e_call; decide; (iterate 2 (simp only [go_sem, pLs, oLs, hgx, hc5, lstI]; rfl)); (refine ACall.args_eq (bs := [.agg x.cells]) (by rw [J.cells_eq x]) ?_; apply ih x (hch x hxm) (f4 x hxm); exact ⟨rfl, rfl⟩); apply e_lit; decide; exact el_23; (iterate 2 (simp only [go_sem, pLs, oLs, hgx, hc5, lstI]; rfl)); decide; apply e_q; decide; (simp only [go_sem, pLs, oLs, hgx, hc5, lstI]; rfl); apply e_nil; apply t_append; decide; (iterate 2 (simp only [go_sem, pLs, oLs, hgx, hc5, lstI]; rfl)); apply AApp_at el_23 q6 q2 (l := vs) (m := [x.ord]) (g := J.cells) rfl (by simp [hc5]) tk_23 J.one (by simp; omega) (by simp; omega); intro s2 L3 ra rb rc; have hx3 := rc.less; refine ⟨by (intro _; assumption), ?_⟩)
          have w1 := rc o _ q3 (fun _ _ _ h => by cases h)
          have w2 := rc r _ q4 (fun _ _ _ h => by cases h)
          have w3 := rc p _ q5 (fun _ _ _ h => by cases h)
          have w5 := rc q _ q7 (fun _ _ _ => nb (by decide))
          have w4 := rc.row (by decide) q1
          obtain ⟨b2, hb2, rfl, hb2g⟩ := ra.row (by simp)
          have ra' : RowAt 25 5 H L3 _ _ := .inr ⟨b2, hb2, rfl, hb2g⟩
          (apply t_storex; (iterate 3 (simp only [go_sem, w1]; rfl)); (first | (intro _; exact Ext.put (Ext.refl _) (by assumption)) | (intro h; exact absurd h (by decide)) | (intro _; exact Ext.put (by assumption) (by assumption)) | (intro _; refine Ext.over (c := _) ?_ ?_ <;> assumption)); refine t_nil (hK _ _ ?_); clear hK K; apply s_region; (iterate 3 (apply s_q; decide; rfl; (simp only [go_sem, w1]; rfl))); apply s_nil; simp only [AThen, ABlock])
          have z1 := ra'.put (o' := jbox j.kind j.int j.text (.row b1 1 (us ++ [ky]).length) (.row b2 5 (vs ++ [x.ord]).length)) w1 (fun _ _ _ h => by cases h)
          have z2 := w4.put (o' := jbox j.kind j.int j.text (.row b1 1 (us ++ [ky]).length) (.row b2 5 (vs ++ [x.ord]).length)) w1 (fun _ _ _ h => by cases h)
          simp only [List.length_map] at z1
          refine ⟨(m + 1, .row b1 1 (us ++ [ky]).length, .row b2 5 (vs ++ [x.ord]).length, L3.put o (jbox j.kind j.int j.text (.row b1 1 (us ++ [ky]).length) (.row b2 5 (vs ++ [x.ord]).length))), by simp only; omega, ⟨by simp only; omega, rb.over hHo, get_other w3 hpo, get_other w2 hro, AHeap.get_put_same _ _ _, get_other w5 hqo, ?_, ?_⟩, ?_, ?_⟩
          · simp only [e1]; exact z2
          · simp only [e2, List.nil_append]; exact z1
          · simp only [getAll, List.map, AFr.get, reduceIte, Nat.reduceEqDiff]
            rw [wrapS hlt (by omega)]; try rfl
          · rfl
    · have hge : N ≤ m := by simp at hd; omega
      rw [List.take_of_length_le (by omega)] at hRa hRc
      obtain ⟨us, hus⟩ : ∃ us, (placesOf j.keys).map (fun i => j.keys.getD i []) = us := ⟨_, rfl⟩
      obtain ⟨vs, hvs⟩ : ∃ vs, ys ++ (placesOf j.keys).map (fun i => (j.list.map J.ord).getD i (.mk 0 0 [] [] [])) = vs := ⟨_, rfl⟩
      have hord : j.ord = .mk j.kind j.int j.text us vs := by
        by_cases hk : j.keys = []
        · have hp0 : placesOf j.keys = [] := List.length_eq_zero_iff.1 (by rw [places_len, hk]; rfl)
          rw [← hus, ← hvs, hp0, List.map_nil, List.map_nil, List.append_nil]
          exact hnil hk
        · obtain ⟨h5, rfl⟩ := hcons hk
          rw [← hus, ← hvs, List.nil_append, ord_eq, if_pos h5, h5]
      rw [hus] at hRa
      rw [hvs] at hRc
      have hsn : ∃ K, Snap X [.agg [.v (.int .i64 j.kind), .v (.int .i64 j.int), .s j.text, a, c]] (L.put r (jbox j.kind j.int j.text a c)) [.agg j.ord.cells] K ∧ K = H := by
        refine ⟨H, ?_, rfl⟩
        have hra := hRa.put (o' := jbox j.kind j.int j.text a c) hrL (fun _ _ _ h => by cases h)
        have hrc := hRc.put (o' := jbox j.kind j.int j.text a c) hrL (fun _ _ _ h => by cases h)
        have := snap_two (X := X) (pre := [.v (.int .i64 j.kind), .v (.int .i64 j.int), .s j.text]) hra hrc (hE.over hHr) (by decide) (fun _ _ _ => rfl) (fun b sz es => snap_strs b sz es _)
        rw [hord, J.cells_eq]
        exact this
      obtain ⟨K1, z3, z4⟩ := hsn
      subst z4
      have hst : storeK L (AL.sz? X.P 25) (ptrTo r) (.agg [.v (.int .i64 j.kind), .v (.int .i64 j.int), .s j.text, a, c]) = some (L.put r (jbox j.kind j.int j.text a c)) := by
        rcases hRa with ⟨rfl, _⟩ | ⟨_, _, rfl, _⟩ <;> rcases hRc with ⟨rfl, _⟩ | ⟨_, _, rfl, _⟩ <;> simp only [go_sem, hrL] <;> rfl
      have z5 := AHeap.get_put_same r (jbox j.kind j.int j.text a c) L
      (apply AWp_exit; simp only [AThen, ABlock, reduceIte, Nat.reduceEqDiff]; clear hK K; refine hK _ _ ?_; clear hK K; apply sR; intro K hK; apply s_q; decide; rfl; (simp only [go_sem, hoL]; rfl))
      apply s_store rfl rfl hst
      generalize L.put r (jbox j.kind j.int j.text a c) = L9 at z3 z5 ⊢
      (refine s_nil (hK _ _ ?_); clear hK K; apply AWp_ret)
      try simp only [AThen, ABlock]
      refine end_ret (av := .agg [.v (.int .i64 j.kind), .v (.int .i64 j.int), .s j.text, a, c]) (by show resAV X.P _ _ [.cell 2 25] = _; simp only [go_sem, z5]; try rfl) ⟨_, _, z3, h⟩
  clear hK0
  (apply sR; intro K hK; (iterate 3 (apply s_q; decide; rfl; (simp only [go_sem, k1]; rfl))); refine s_nil (hK _ _ ?_); clear hK K)
  refine cs (fun h4 => ?_) (fun h4 => ?_)
  · have h4 : j.kind = 4 := by simpa using h4
    have hkn := shaped_list hsh h4
    (apply sR; intro K hK; refine qr ?_; refine s_nil (hK _ _ ?_); clear hK K; apply AWp_block)
    refine AWp_loop_s (σ := Nat × AV × AHeap) [1, 2, 3, 4] (fun s => [ptrTo p, ptrTo r, ptrTo o, .v (.int .i64 s.1)]) (fun s => s.2.2) (fun s => j.list.length - s.1)
      (fun s => s.1 ≤ j.list.length ∧ Ext H s.2.2 ∧ s.2.2.get p = some (jbox j.kind j.int j.text (.sl false (j.keys.map strCells)) (.sl false (j.list.map J.cells))) ∧ s.2.2.get r = some (jbox 0 0 [] (.sl true []) (.sl true [])) ∧ s.2.2.get o = some (jbox j.kind j.int j.text (.sl true []) s.2.1) ∧ RowAt 25 5 H s.2.2 (((j.list.take s.1).map J.ord).map J.cells) s.2.1)
      (0, .sl true [], M2) ⟨Nat.zero_le _, k4, k1, k2, k3, RowAt.nil _ _ _ _⟩ rfl rfl (fun s hs => ?_)
    obtain ⟨m, c, L⟩ := s
    obtain ⟨hm, hE, hpL, hrL, hoL, hR⟩ := hs
    clear k1 k2 k3 k4
    simp only [List.zip_cons_cons, List.zip_nil_right] at hm hE hpL hrL hoL hR ⊢
    (apply sK; intro K hK; apply sR; intro K hK; (iterate 5 (apply s_q; decide; rfl; (simp only [go_sem, hpL]; rfl))); refine s_nil (hK _ _ ?_); clear hK K)
    refine cs (fun hd => ?_) (fun hd => ?_)
    · have hlt : m < j.list.length := by simpa using hd
      obtain ⟨x, hx⟩ := gete hlt
      have hgx := jget_at hx
      have hxm := List.mem_of_getElem? hx
      have hc5 := J.cells_eq x.ord
      have q2s := less_get (e := 25) hpL (fun _ _ _ h => by cases h)
      have q3s := less_get (e := 25) hoL (fun _ _ _ h => by cases h)
      (refine AWp_skip (hK _ _ ?_); clear hK K; apply sK; intro K hK; apply AWp_block)
      apply AWp_drawAH [0, 1, 2, 3, 4, 5, 6, 7, 8, 10] [9, 11] 1 (less_ext 25 L) (by exact mixed); kernel_rfl; (iterate 2 (simp only [go_sem]; rfl))
      ((iterate 7 (apply e_q; decide; (simp only [go_sem, q2s, q3s, hgx, hc5]; rfl))); apply e_call; decide; (iterate 2 (simp only [go_sem, q2s, q3s, hgx, hc5]; rfl)); (refine ACall.args_eq (bs := [.agg x.cells]) (by rw [J.cells_eq x]) ?_; apply ih x (hch x hxm) (f4 x hxm); exact ⟨rfl, rfl⟩); apply e_lit; decide; exact el_23; (iterate 2 (simp only [go_sem, q2s, q3s, hgx, hc5]; rfl)); decide; apply e_q; decide; (simp only [go_sem, q2s, q3s, hgx, hc5]; rfl); apply e_nil; apply t_append; decide; (iterate 2 (simp only [go_sem, q2s, q3s, hgx, hc5]; rfl)); apply AApp_at el_23 hE hR (l := (j.list.take m).map J.ord) (m := [x.ord]) (g := J.cells) rfl (by simp [hc5]) tk_23 J.one (by simp; omega) (by simp; omega); intro s2 L3 r1 r2 r3; have hx3 := r3.less; refine ⟨by (intro _; assumption), ?_⟩)
      have w1 := r3 o _ hoL (fun _ _ _ h => by cases h)
      have w2 := r3 r _ hrL (fun _ _ _ h => by cases h)
      have w3 := r3 p _ hpL (fun _ _ _ h => by cases h)
      obtain ⟨rb, hrb, rfl, hrbg⟩ := r1.row (by simp)
      have r1' : RowAt 25 5 H L3 _ _ := .inr ⟨rb, hrb, rfl, hrbg⟩
      (apply t_storex; (iterate 3 (simp only [go_sem, w1]; rfl)); (first | (intro _; exact Ext.put (Ext.refl _) (by assumption)) | (intro h; exact absurd h (by decide)) | (intro _; exact Ext.put (by assumption) (by assumption)) | (intro _; refine Ext.over (c := _) ?_ ?_ <;> assumption)); refine t_nil (hK _ _ ?_); clear hK K; apply s_region; (iterate 3 (apply s_q; decide; rfl; (simp only [go_sem, w1]; rfl))); apply s_nil; simp only [AThen, ABlock])
      have r4 := r1'.put (o' := jbox j.kind j.int j.text (.sl true []) (.row rb 5 (((j.list.take m).map J.ord ++ [x.ord]).map J.cells).length)) w1 (fun _ _ _ h => by cases h)
      have e2 : (j.list.take (m + 1)).map J.ord = (j.list.take m).map J.ord ++ [x.ord] := by rw [take_succ hx]; simp
      refine ⟨(m + 1, .row rb 5 (((j.list.take m).map J.ord ++ [x.ord]).map J.cells).length, L3.put o (jbox j.kind j.int j.text (.sl true []) (.row rb 5 (((j.list.take m).map J.ord ++ [x.ord]).map J.cells).length))), by simp only; omega, ⟨by simp only; omega, r2.over hHo, get_other w3 hpo, get_other w2 hro, AHeap.get_put_same _ _ _, ?_⟩, ?_, ?_⟩
      · simp only [e2]; exact r4
      · simp only [getAll, List.map, AFr.get, reduceIte, Nat.reduceEqDiff]
        rw [wrapS hlt (by omega)]; try rfl
      · simp only [List.length_map]
    · have hge : j.list.length ≤ m := by simpa using hd
      rw [List.take_of_length_le hge] at hR
      apply AWp_exit; simp only [AThen, ABlock, reduceIte, Nat.reduceEqDiff]
      exact hgo (j.list.map J.ord) c L (fun _ => by rw [ord_eq, if_neg (by omega)]) (fun h => absurd hkn h) (by simp; omega) hE hpL hrL hoL hR _ rfl
  · have h4 : ¬ j.kind = 4 := by simpa using h4
    apply AWp_skip; simp only [AThen, ABlock]
    refine hgo [] (.sl true []) M2 (fun hk => ?_) (fun hk => ?_) (by simp) k4 k1 k2 k3 (RowAt.nil _ _ _ _) _ rfl
    · by_cases h5 : j.kind = 5
      · have hp0 : placesOf j.keys = [] := List.length_eq_zero_iff.1 (by rw [places_len, hk]; rfl)
        rw [ord_eq, if_pos h5, hp0, h5]; rfl
      · rw [ord_eq, if_neg h5, (shaped_none hsh h4 h5).2]; rfl
    · by_cases h5 : j.kind = 5
      · exact ⟨h5, rfl⟩
      · exact absurd (shaped_none hsh h4 h5).1 hk
set_option maxHeartbeats 1000000 in
theorem rOrder_c (j : J) (hf : J.Fit j) {H : AHeap} {Kc : AV → AHeap → Prop} (h : Kc (.agg (if goodB 12 j then j.ord else J.mk 0 0 [] [] []).cells) H) : ACall X 107 [.agg j.cells] H Kc := by
  refine ACall.post ?_
  rw [J.cells_eq]
  refine ACall_intro Tryz.func107 rfl (by kernel_rfl) (by rw [Tryz.ntmps107]; simp) ?_; rw [Tryz.ntmps107]; simp only [frame0, Nat.reduceAdd]
  apply sR; intro K hK
  apply s_box; decide; exact (by simp only [go_sem]; try rfl); exact (by simp only [go_sem]; try rfl); intro p hp
  apply s_alloc; decide; exact zc_json; intro r hr
  refine s_nil (hK _ _ ?_); clear hK K
  have g1 := get_fresh (AHeap.get_put_same p (jbox j.kind j.int j.text (.sl false (j.keys.map strCells)) (.sl false (j.list.map J.cells))) H) hr (x := jbox 0 0 [] (.sl true []) (.sl true []))
  have g2 := AHeap.get_put_same r (jbox 0 0 [] (.sl true []) (.sl true [])) (H.put p (jbox j.kind j.int j.text (.sl false (j.keys.map strCells)) (.sl false (j.list.map J.cells))))
  have g3 := (Ext.fresh hp (o := jbox j.kind j.int j.text (.sl false (j.keys.map strCells)) (.sl false (j.list.map J.cells)))).put hr (ob := jbox 0 0 [] (.sl true []) (.sl true []))
  have hHr : H.get r = none := none_fresh hr
  generalize (H.put p (jbox j.kind j.int j.text (.sl false (j.keys.map strCells)) (.sl false (j.list.map J.cells)))).put r (jbox 0 0 [] (.sl true []) (.sl true [])) = M at g1 g2 g3 ⊢
  have hend : ∀ (a : J), storeK M (AL.sz? X.P 25) (ptrTo r) (.agg a.cells) = some (M.put r (jbox a.kind a.int a.text (.sl false (a.keys.map strCells)) (.sl false (a.list.map J.cells)))) ∧ Ext H (M.put r (jbox a.kind a.int a.text (.sl false (a.keys.map strCells)) (.sl false (a.list.map J.cells)))) := fun a => by
    refine ⟨?_, g3.over hHr⟩
    rw [J.cells_eq]; simp only [go_sem, g2]; try rfl
  (apply sK; intro K hK; apply sR; intro K hK; apply s_q; decide; rfl; (simp only [go_sem, g1]; rfl); apply s_call; decide; (iterate 2 (simp only [go_sem, g1]; rfl)); refine ACall.args_eq (bs := [.agg j.cells]) (by rw [J.cells_eq j]) ?_; apply rGood_c j _ _ hf; apply s_q; decide; rfl; (simp only [go_sem, g1]; rfl); refine s_nil (hK _ _ ?_); clear hK K)
  refine cs (fun hg => ?_) (fun hg => ?_)
  · have hg : goodB 12 j = false := by simpa using hg
    rw [hg] at h
    have z1 : storeK M (AL.sz? X.P 25) (ptrTo r) (.agg [.v (.int .i64 0), .v (.int .i64 0), .s [], .sl true [], .sl true []]) = some (M.put r (jbox 0 0 [] (.sl true []) (.sl true []))) := by simp only [go_sem, g2]; try rfl
    have z3 := AHeap.get_put_same r (jbox 0 0 [] (.sl true []) (.sl true [])) M
    (apply sR; intro K hK; apply s_q; decide; rfl; (simp only [go_sem, zc_json]; rfl))
    apply s_store rfl rfl z1
    (refine s_nil (hK _ _ ?_); clear hK K; apply AWp_ret)
    try simp only [AThen, ABlock]
    refine end_ret (av := .agg [.v (.int .i64 0), .v (.int .i64 0), .s [], .sl true [], .sl true []]) (by show resAV X.P _ _ [.cell 2 25] = _; simp only [go_sem, z3]; try rfl) ⟨_, _, Snap.trans Snap.loosen (Snap.drop (g3.over hHr)), h⟩
  · have hg : goodB 12 j = true := by simpa using hg
    rw [hg] at h
    obtain ⟨z1, z2⟩ := hend j.ord
    have z3 := AHeap.get_put_same r (jbox j.ord.kind j.ord.int j.ord.text (.sl false (j.ord.keys.map strCells)) (.sl false (j.ord.list.map J.cells))) M
    (refine AWp_skip (hK _ _ ?_); clear hK K; apply sR; intro K hK; apply s_q; decide; rfl; (simp only [go_sem, g1]; rfl); apply s_call; decide; (iterate 2 (simp only [go_sem, g1]; rfl)); refine ACall.args_eq (bs := [.agg j.cells]) (by rw [J.cells_eq j]) ?_; apply rorder_c 12 j hg hf)
    apply s_store rfl rfl z1
    (refine s_nil (hK _ _ ?_); clear hK K; apply AWp_ret)
    try simp only [AThen, ABlock]
    refine end_ret (av := .agg j.ord.cells) (by show resAV X.P _ _ [.cell 2 25] = _; simp only [go_sem, z3, J.cells_eq]; try rfl) ⟨_, _, Snap.drop z2, h⟩

abbrev Nm := List UInt8 × Int
def nmCells (x : Nm) : List AV := [.s x.1, .v (.int .i64 x.2)]
theorem nm_one (a : Nm) : (nmCells a).length = 2 ∧ (nmCells a).all AV.one = true := ⟨rfl, rfl⟩
theorem nm_at {l : List Nm} {i : Nat} {c : Nm} (h : l[i]? = some c) : (l.map nmCells)[i]? = some [.s c.1, .v (.int .i64 c.2)] := by rw [List.getElem?_map, h]; rfl
def fndL (l : List Nm) (s : List UInt8) : Int × Bool := match l.find? (fun x => decide (x.1 = s)) with | some x => (x.2, true) | none => (0, false)
structure Lv where
  ban : Int
  kick : Int
  invite : Int
  redact : Int
  state : Int
  events : Int
  users : Int
  byUser : List Nm
  byType : List Nm
def Lv.cells (l : Lv) : List AV := [.v (.int .i64 l.ban), .v (.int .i64 l.kick), .v (.int .i64 l.invite), .v (.int .i64 l.redact), .v (.int .i64 l.state), .v (.int .i64 l.events), .v (.int .i64 l.users), .sl false (l.byUser.map nmCells), .sl false (l.byType.map nmCells)]
def Lv.user (l : Lv) (s : List UInt8) : Int := if (fndL l.byUser s).2 then (fndL l.byUser s).1 else l.users
def Lv.type (l : Lv) (s : List UInt8) (state : Bool) : Int := if (fndL l.byType s).2 then (fndL l.byType s).1 else if state then l.state else l.events
def lvStart (s : List UInt8) : Lv := ⟨50, 50, 0, 50, 0, 0, 0, [(s, 100)], []⟩
def Lv.Len (l : Lv) : Prop := l.byUser.length ≤ 1000000000 ∧ l.byType.length ≤ 1000000000

theorem findB_c (q : Nat) (s : List UInt8) (x : Nm) (H : AHeap) (hq : H.get q = some (.box 9 [.s s])) (Kc : AV → AHeap → Prop) (h : Kc (.v (.bool (decide (x.1 = s)))) H) : ACall X 139 [.agg (nmCells x), ptrTo q] H Kc := by
  rw [nmCells]
  refine ACall.drop ?_
  refine ACall_intro Tryz.func139 rfl (by kernel_rfl) (by rw [Tryz.ntmps139]; simp) ?_; rw [Tryz.ntmps139]; simp only [frame0, Nat.reduceAdd]
  apply sR; intro K hK
  apply s_box; decide; exact (by simp only [go_sem]; try rfl); exact (by simp only [go_sem]; try rfl); intro p hp
  (refine qr ?_; refine s_nil (hK _ _ ?_); clear hK K; apply sR; intro K hK; (iterate 2 (refine qr ?_)))
  have g1 := get_fresh hq hp (x := .box 98 [.s x.1, .v (.int .i64 x.2)])
  ((iterate 3 (apply s_q; decide; rfl; (simp only [go_sem, g1]; rfl))); refine s_nil (hK _ _ ?_); clear hK K; apply AWp_ret)
  exact ⟨H, Ext.fresh hp, h⟩
set_option maxHeartbeats 1000000 in
theorem indexFuncN_c (g : FuncId) (cap : List AV) (p : Nm → Bool) (t : Bool) (l : List Nm) (hl : l.length ≤ 4611686018427387904) (H : AHeap) (hg : ∀ x ∈ l, ∀ K : AV → AHeap → Prop, K (.v (.bool (p x))) H → ACall X g ([.agg (nmCells x)] ++ cap) H K) (Kc : AV → AHeap → Prop)
    (h : Kc (.v (.int .i64 (firstI p l))) H) : ACall X 138 [.sl t (l.map nmCells), .fn (.func g) [] cap] H Kc := by
  refine ACall_intro Tryz.func138 rfl (by kernel_rfl) (by rw [Tryz.ntmps138]; simp) ?_; rw [Tryz.ntmps138]; simp only [frame0, Nat.reduceAdd]
  (apply sR; intro K hK; refine qr ?_; refine s_nil (hK _ _ ?_); clear hK K; apply sK; intro K hK; apply sR; intro K hK; (iterate 3 (refine qr ?_)); refine s_nil (hK _ _ ?_); clear hK K; apply AWp_block)
  refine AWp_loop_s (σ := Nat) [0, 1, 7, 8] (fun i => [.sl t (l.map nmCells), .fn (.func g) [] cap, .v (.int .i64 l.length), .v (.int .i64 i)]) (fun _ => H) (fun i => l.length - i) (fun i => i ≤ l.length ∧ ∀ x ∈ l.take i, p x = false) 0 ⟨Nat.zero_le _, by simp⟩ rfl rfl (fun i hi => ?_)
  simp only [List.zip_cons_cons, List.zip_nil_right]
  (apply sR; intro K hK; refine qr ?_; refine s_nil (hK _ _ ?_); clear hK K; apply sK; intro K hK)
  refine cs (fun hd => ?_) (fun hd => ?_)
  · have hlt : i < l.length := by simpa using hd
    obtain ⟨x, hm⟩ := gete hlt
    have hgx := nm_at hm
    have hxm := List.mem_of_getElem? hm
    (refine AWp_skip (hK _ _ ?_); clear hK K; apply sK; intro K hK; apply AWp_block; apply sR; intro K hK; (iterate 2 (apply s_q; decide; rfl; (simp only [go_sem, hgx]; rfl))); refine s_nil (hK _ _ ?_); clear hK K; apply sR; intro K hK; (iterate 5 (apply s_q; decide; rfl; (simp only [go_sem, hgx]; rfl))); apply s_call; decide; (iterate 2 (simp only [go_sem, hgx]; rfl)); apply hg x hxm; refine s_nil (hK _ _ ?_); clear hK K)
    refine cs (fun hq => ?_) (fun hq => ?_)
    · (apply sR; intro K hK; (iterate 2 (refine qr ?_)); refine s_nil (hK _ _ ?_); clear hK K; apply AWp_ret; simp only [AThen, ABlock]; apply end_ret; rfl; simp only [AFr.get, reduceIte, Nat.reduceEqDiff])
      exact finI h (firstI_some hi.2 hm hq).symm
    · (refine AWp_skip (hK _ _ ?_); clear hK K; apply s_region; (iterate 2 (refine qr ?_)); apply s_nil; simp only [AThen, ABlock])
      refine ⟨i + 1, by omega, ⟨by omega, ?_⟩, ?_, by trivial⟩
      · rw [List.take_add_one, hm]
        intro y hy
        rcases List.mem_append.1 hy with hy | hy
        · exact hi.2 y hy
        · simp at hy; subst hy; exact hq
      · simp only [getAll, List.map, AFr.get, reduceIte, Nat.reduceEqDiff]
        rw [wrapS hlt (by omega)]; try rfl
  · have hge : l.length ≤ i := by simpa using hd
    (apply AWp_exit; simp only [AThen, ABlock, reduceIte, Nat.reduceEqDiff]; clear hK K; refine hK _ _ ?_; clear hK K; apply sR; intro K hK; refine qr ?_; refine s_nil (hK _ _ ?_); clear hK K; apply AWp_ret)
    have := hi.2
    rw [List.take_of_length_le hge] at this
    exact finI h (firstI_none this).symm
theorem firstI_cases {α : Type} (p : α → Bool) (l : List α) : (firstI p l = -1 ∧ l.find? p = none) ∨ ∃ i x, firstI p l = ((i : Nat) : Int) ∧ l[i]? = some x ∧ l.find? p = some x := by
  rw [firstI]
  cases h : l.findIdx? p with
  | none =>
    left
    refine ⟨rfl, ?_⟩
    rw [List.findIdx?_eq_none_iff] at h
    rw [List.find?_eq_none]
    intro x hx
    simp [h x hx]
  | some i =>
    right
    obtain ⟨hi, h1, h2⟩ := List.findIdx?_eq_some_iff_getElem.1 h
    refine ⟨i, l[i], rfl, List.getElem?_eq_getElem hi, ?_⟩
    rw [List.find?_eq_some_iff_getElem]
    exact ⟨h1, i, hi, rfl, fun j hj => by simpa using h2 j hj⟩
set_option maxHeartbeats 1000000 in
theorem find_c (t : Bool) (l : List Nm) (hl : l.length ≤ 4611686018427387904) (s : List UInt8) (H : AHeap) (Kc : AV → AHeap → Prop) (h : Kc (.tup [.v (.int .i64 (fndL l s).1), .v (.bool (fndL l s).2)]) H) : ACall X 104 [.sl t (l.map nmCells), .s s] H Kc := by
  refine ACall.drop ?_
  refine ACall_intro Tryz.func104 rfl (by kernel_rfl) (by rw [Tryz.ntmps104]; simp) ?_; rw [Tryz.ntmps104]; simp only [frame0, Nat.reduceAdd]
  apply sR; intro K hK
  apply s_box; decide; exact (by simp only [go_sem]; try rfl); exact (by simp only [go_sem]; try rfl); intro q hq
  have g1 := AHeap.get_put_same q (.box 9 [.s s]) H
  have hE := Ext.fresh hq (o := .box 9 [.s s])
  generalize H.put q (.box 9 [.s s]) = M at g1 hE ⊢
  ((iterate 2 (refine qr ?_)); refine s_nil (hK _ _ ?_); clear hK K; apply sR; intro K hK; (iterate 2 (refine qr ?_)); apply s_call; decide; (iterate 2 (simp only [go_sem]; rfl)); apply indexFuncN_c 139 [ptrTo q] (fun x => decide (x.1 = s)) t l hl _ (fun x _ K hK => findB_c q s x _ g1 K hK); refine qr ?_; refine s_nil (hK _ _ ?_); clear hK K; apply sK; intro K hK; apply sR; intro K hK; (iterate 2 (refine qr ?_)); refine s_nil (hK _ _ ?_); clear hK K)
  rcases firstI_cases (fun x : Nm => decide (x.1 = s)) l with ⟨e1, e2⟩ | ⟨i, x, e1, e2, e3⟩
  · rw [e1]
    rw [fndL, e2] at h
    refine cs (fun hc => ?_) (fun hc => ?_)
    · (apply sR; intro K hK; (iterate 2 (refine qr ?_)); refine s_nil (hK _ _ ?_); clear hK K; apply AWp_ret; simp only [AThen, ABlock]; apply end_ret; rfl; simp only [AFr.get, reduceIte, Nat.reduceEqDiff])
      exact ⟨H, hE, h⟩
    · cases hc
  · rw [e1]
    rw [fndL, e3] at h
    have hgx := nm_at e2
    refine cs (fun hc => ?_) (fun hc => ?_)
    · simp at hc; omega
    · (refine AWp_skip (hK _ _ ?_); clear hK K; apply sR; intro K hK; (iterate 7 (apply s_q; decide; rfl; (simp only [go_sem, hgx]; rfl))); refine s_nil (hK _ _ ?_); clear hK K; apply AWp_ret)
      exact ⟨H, hE, h⟩

abbrev lvbox (l : Lv) : AObj := .box 58 [.v (.int .i64 l.ban), .v (.int .i64 l.kick), .v (.int .i64 l.invite), .v (.int .i64 l.redact), .v (.int .i64 l.state), .v (.int .i64 l.events), .v (.int .i64 l.users), .sl false (l.byUser.map nmCells), .sl false (l.byType.map nmCells)]

theorem puser_c (l : Lv) (hl : l.Len) (s : List UInt8) (H : AHeap) (Kc : AV → AHeap → Prop) (h : Kc (.v (.int .i64 (l.user s))) H) : ACall X 69 [.agg l.cells, .s s] H Kc := by
  refine ACall.drop ?_
  rw [Lv.cells]
  refine ACall_intro Tryz.func69 rfl (by kernel_rfl) (by rw [Tryz.ntmps69]; simp) ?_; rw [Tryz.ntmps69]; simp only [frame0, Nat.reduceAdd]
  apply sR; intro K hK
  apply s_box; decide; exact (by simp only [go_sem]; try rfl); exact (by simp only [go_sem]; try rfl); intro q hq
  have g1 := AHeap.get_put_same q (lvbox l) H
  have hE := Ext.fresh hq (o := lvbox l)
  generalize H.put q (lvbox l) = M at g1 hE ⊢
  (apply s_q; decide; rfl; (simp only [go_sem, g1]; rfl); refine s_nil (hK _ _ ?_); clear hK K; apply sK; intro K hK; apply sR; intro K hK; (iterate 3 (apply s_q; decide; rfl; (simp only [go_sem, g1]; rfl))); apply s_call; decide; (iterate 2 (simp only [go_sem, g1]; rfl)); apply find_c false l.byUser (by have := hl.1; omega) s; (iterate 5 (apply s_q; decide; rfl; (simp only [go_sem, g1]; rfl))); refine s_nil (hK _ _ ?_); clear hK K; apply sR; intro K hK; apply s_q; decide; rfl; (simp only [go_sem, g1]; rfl); refine s_nil (hK _ _ ?_); clear hK K)
  rw [Lv.user] at h
  refine cs (fun hc => ?_) (fun hc => ?_)
  · rw [if_pos hc] at h
    (apply sR; intro K hK; (iterate 2 (apply s_q; decide; rfl; (simp only [go_sem, g1]; rfl))); refine s_nil (hK _ _ ?_); clear hK K; apply AWp_ret; simp only [AThen, ABlock]; apply end_ret; rfl; simp only [AFr.get, reduceIte, Nat.reduceEqDiff])
    exact ⟨H, hE, h⟩
  · rw [if_neg (by simpa using hc)] at h
    (refine AWp_skip (hK _ _ ?_); clear hK K; apply sR; intro K hK; (iterate 3 (apply s_q; decide; rfl; (simp only [go_sem, g1]; rfl))); refine s_nil (hK _ _ ?_); clear hK K; apply AWp_ret)
    exact ⟨H, hE, h⟩
theorem rfind_c (t : Bool) (l : List Nm) (hl : l.length ≤ 1000000000) (s : List UInt8) (H : AHeap) (Kc : AV → AHeap → Prop) (h : Kc (.tup [.v (.int .i64 (fndL l s).1), .v (.bool (fndL l s).2)]) H) : ACall X 74 [.sl t (l.map nmCells), .s s] H Kc := by
  refine ACall_intro Tryz.func74 rfl (by kernel_rfl) (by rw [Tryz.ntmps74]; simp) ?_; rw [Tryz.ntmps74]; simp only [frame0, Nat.reduceAdd]
  (apply sR; intro K hK; (iterate 2 (refine qr ?_)); refine s_nil (hK _ _ ?_); clear hK K; apply sK; intro K hK; apply sR; intro K hK; refine qr ?_; refine s_nil (hK _ _ ?_); clear hK K; apply AWp_block)
  refine AWp_loop_s (σ := Nat) [0, 1, 6] (fun i => [.sl t (l.map nmCells), .s s, .v (.int .i64 i)]) (fun _ => H) (fun i => l.length - i) (fun i => i ≤ l.length ∧ ∀ x ∈ l.take i, (fun x : Nm => decide (x.1 = s)) x = false) 0 ⟨Nat.zero_le _, by simp⟩ rfl rfl (fun i hi => ?_)
  simp only [List.zip_cons_cons, List.zip_nil_right]
  (apply sK; intro K hK; apply sR; intro K hK; (iterate 4 (refine qr ?_)); refine s_nil (hK _ _ ?_); clear hK K)
  refine cs (fun hd => ?_) (fun hd => ?_)
  · have hlt : i < l.length := by simpa using hd
    obtain ⟨x, hm⟩ := gete hlt
    have hgx := nm_at hm
    (refine AWp_skip (hK _ _ ?_); clear hK K; apply sK; intro K hK; apply AWp_block; apply sR; intro K hK; (iterate 7 (apply s_q; decide; rfl; (simp only [go_sem, hgx]; rfl))); refine s_nil (hK _ _ ?_); clear hK K)
    refine cs (fun hq => ?_) (fun hq => ?_)
    · (apply sR; intro K hK; (iterate 7 (apply s_q; decide; rfl; (simp only [go_sem, hgx]; rfl))); refine s_nil (hK _ _ ?_); clear hK K; apply AWp_ret; simp only [AThen, ABlock]; apply end_ret; rfl; simp only [AFr.get, reduceIte, Nat.reduceEqDiff])
      have := firstI_some (p := fun x : Nm => decide (x.1 = s)) hi.2 hm hq
      rcases firstI_cases (fun x : Nm => decide (x.1 = s)) l with ⟨e1, e2⟩ | ⟨i', x', e1, e2, e3⟩
      · omega
      · have : i = i' := by omega
        subst this
        rw [hm] at e2; cases e2
        rw [fndL, e3] at h
        exact h
    · (refine AWp_skip (hK _ _ ?_); clear hK K; apply s_region; (iterate 3 (refine qr ?_)); apply s_nil; simp only [AThen, ABlock])
      refine ⟨i + 1, by omega, ⟨by omega, ?_⟩, ?_, by trivial⟩
      · rw [List.take_add_one, hm]
        intro y hy
        rcases List.mem_append.1 hy with hy | hy
        · exact hi.2 y hy
        · simp at hy; subst hy; exact hq
      · simp only [getAll, List.map, AFr.get, reduceIte, Nat.reduceEqDiff]
        rw [wrapS hlt (by omega)]; try rfl
  · have hge : l.length ≤ i := by simpa using hd
    (apply AWp_exit; simp only [AThen, ABlock, reduceIte, Nat.reduceEqDiff]; clear hK K; refine hK _ _ ?_; clear hK K; apply sR; intro K hK; (iterate 2 (refine qr ?_)); refine s_nil (hK _ _ ?_); clear hK K; apply AWp_ret)
    have := hi.2
    rw [List.take_of_length_le hge] at this
    have e : l.find? (fun x : Nm => decide (x.1 = s)) = none := by rw [List.find?_eq_none]; intro x hx; simp [this x hx]
    rw [fndL, e] at h
    exact h
theorem ruser_c (l : Lv) (hl : l.Len) (s : List UInt8) (H : AHeap) (Kc : AV → AHeap → Prop) (h : Kc (.v (.int .i64 (l.user s))) H) : ACall X 41 [.agg l.cells, .s s] H Kc := by
  refine ACall.drop ?_
  rw [Lv.cells]
  refine ACall_intro Tryz.func41 rfl (by kernel_rfl) (by rw [Tryz.ntmps41]; simp) ?_; rw [Tryz.ntmps41]; simp only [frame0, Nat.reduceAdd]
  apply sR; intro K hK
  apply s_box; decide; exact (by simp only [go_sem]; try rfl); exact (by simp only [go_sem]; try rfl); intro q hq
  have g1 := AHeap.get_put_same q (lvbox l) H
  have hE := Ext.fresh hq (o := lvbox l)
  generalize H.put q (lvbox l) = M at g1 hE ⊢
  (apply s_q; decide; rfl; (simp only [go_sem, g1]; rfl); refine s_nil (hK _ _ ?_); clear hK K; apply sR; intro K hK; (iterate 3 (apply s_q; decide; rfl; (simp only [go_sem, g1]; rfl))); apply s_call; decide; (iterate 2 (simp only [go_sem, g1]; rfl)); apply rfind_c false l.byUser (by have := hl.1; omega) s; (iterate 5 (apply s_q; decide; rfl; (simp only [go_sem, g1]; rfl))); refine s_nil (hK _ _ ?_); clear hK K; apply sK; intro K hK; apply sR; intro K hK; apply s_q; decide; rfl; (simp only [go_sem, g1]; rfl); refine s_nil (hK _ _ ?_); clear hK K)
  rw [Lv.user] at h
  refine cs (fun hc => ?_) (fun hc => ?_)
  · rw [if_pos hc] at h
    (apply sR; intro K hK; (iterate 2 (apply s_q; decide; rfl; (simp only [go_sem, g1]; rfl))); refine s_nil (hK _ _ ?_); clear hK K; apply AWp_ret; simp only [AThen, ABlock]; apply end_ret; rfl; simp only [AFr.get, reduceIte, Nat.reduceEqDiff])
    exact ⟨H, hE, h⟩
  · rw [if_neg (by simpa using hc)] at h
    (refine AWp_skip (hK _ _ ?_); clear hK K; apply sR; intro K hK; (iterate 3 (apply s_q; decide; rfl; (simp only [go_sem, g1]; rfl))); refine s_nil (hK _ _ ?_); clear hK K; apply AWp_ret)
    exact ⟨H, hE, h⟩
def levelB (j : J) : Bool := if (if decide (j.kind = 2) = true then decide (-1073741824 ≤ j.int) else false) = true then decide (j.int ≤ 1073741824) else false
theorem level_c (j : J) (H : AHeap) (Kc : AV → AHeap → Prop) (h : Kc (.tup [.v (.int .i64 j.int), .v (.bool (levelB j))]) H) : ACall X 133 [.agg j.cells] H Kc := by
  refine ACall.drop ?_
  rw [J.cells_eq]
  refine ACall_intro Tryz.func133 rfl (by kernel_rfl) (by rw [Tryz.ntmps133]; simp) ?_; rw [Tryz.ntmps133]; simp only [frame0, Nat.reduceAdd]
  apply sR; intro K hK
  apply s_box; decide; exact (by simp only [go_sem]; try rfl); exact (by simp only [go_sem]; try rfl); intro q hq
  have g1 := AHeap.get_put_same q (.box 25 [.v (.int .i64 j.kind), .v (.int .i64 j.int), .s j.text, .sl false (j.keys.map strCells), .sl false (j.list.map J.cells)]) H
  have hE := Ext.fresh hq (o := .box 25 [.v (.int .i64 j.kind), .v (.int .i64 j.int), .s j.text, .sl false (j.keys.map strCells), .sl false (j.list.map J.cells)])
  generalize H.put q (.box 25 [.v (.int .i64 j.kind), .v (.int .i64 j.int), .s j.text, .sl false (j.keys.map strCells), .sl false (j.list.map J.cells)]) = M at g1 hE ⊢
  ((iterate 2 (refine qr ?_)); refine s_nil (hK _ _ ?_); clear hK K; apply sK; intro K hK)
  apply AWp_drawA [0, 1, 2, 3, 4, 5, 6, 7, 8, 9, 10, 11, 12, 13, 14, 15, 16] [] 0 (by exact mixed); kernel_rfl; (iterate 2 (simp only [go_sem]; rfl))
  ((iterate 6 (apply e_q; decide; (simp only [go_sem, g1]; rfl))); apply e_spec; decide; (iterate 4 (simp only [go_sem, g1]; rfl)); trivial; (iterate 2 (apply e_spec; decide; (iterate 4 (simp only [go_sem, g1]; rfl)); simp [condsOk])); apply e_pick; decide; (iterate 6 (simp only [go_sem, g1]; rfl)); trivial; simp [condsOk]; trivial; apply e_q; decide; (simp only [go_sem, g1]; rfl); apply e_spec; decide; (iterate 4 (simp only [go_sem, g1]; rfl)); trivial; (iterate 2 (apply e_spec; decide; (iterate 4 (simp only [go_sem, g1]; rfl)); simp [condsOk])); apply e_pick; decide; (iterate 6 (simp only [go_sem, g1]; rfl)); trivial; simp [condsOk]; trivial; (iterate 2 (apply e_q; decide; (simp only [go_sem, g1]; rfl))); apply e_nil; refine t_nil (hK _ _ ?_); clear hK K; apply AWp_ret)
  refine end_ret (av := .tup [.v (.int .i64 j.int), .v (.bool (levelB j))]) ?_ ⟨H, hE, h⟩
  show resAV X.P _ _ [.tmp 2, .tmp 3] = _
  simp only [go_sem, levelB]; try rfl
end Go.Proofs.YtcpfgjfiacfmoaaGreatDoor
