/-
  Canonical JSON: the places of names in their order. Contract.
-/
import Derived.Test.YtcpfgjfiacfmoaaGreatDoorBPart6
import Derived.Test.YtcpfgjfiacfmoaaGreatDoorBAL4
set_option linter.unusedSimpArgs false
set_option linter.unusedVariables false
set_option maxRecDepth 100000
namespace Go.Proofs.YtcpfgjfiacfmoaaGreatDoor
open Go Go.AL
attribute [local irreducible] AOps AWp SOps AE AT ACall AApp

theorem places_c (t : Bool) (ks : List (List UInt8)) (hn : ks.Nodup) (hl : ks.length ≤ 1000000000) (H : AHeap) (Kc : AV → AHeap → Prop) (h : Kc (.sl false ((placesOf ks).map natCells)) H) : ACall X 156 [.sl t (ks.map strCells)] H Kc := by
  refine ACall.gr (e := 3) (sz := 1) h ?_
  clear h
  obtain ⟨n, hnl⟩ : ∃ n, ks.length = n := ⟨_, rfl⟩
  refine ACall_intro Tryz.func156 rfl (by kernel_rfl) (by rw [Tryz.ntmps156]; simp) ?_; rw [Tryz.ntmps156]; simp only [frame0, Nat.reduceAdd]
  refine AWp_seq_k (fun K hK => ?_); apply s_region
  apply s_box; decide; exact (by simp only [go_sem]; try rfl); exact (by simp only [go_sem]; try rfl); intro q hq
  have e1 := AHeap.get_put_same q (.box 22 [.sl t (ks.map strCells)]) H
  have e3 := Ext.fresh hq (o := .box 22 [.sl t (ks.map strCells)])
  generalize AHeap.put q (.box 22 [.sl t (ks.map strCells)]) H = M at e1 e3 ⊢
  (apply s_q; decide; rfl; (simp only [go_sem, e1, hnl]; rfl); apply s_nil; simp only [AThen, ABlock]; refine hK _ _ ?_; clear hK K; refine AWp_seq_k (fun K hK => ?_); apply s_region; (iterate 2 (apply s_q; decide; rfl; (simp only [go_sem, e1, hnl]; rfl))))
  apply s_make; decide; exact el_38; exact (by simp only [go_sem]; try rfl); exact (by simp only [go_sem]; try rfl); exact zc_3; (refine ⟨by omega, by omega, by decide⟩); intro r hr
  have hHr : H.get r = none := none_of_ext e3 hr
  have f1 := AHeap.get_put_same r (.row 3 1 false (List.replicate ((n : Int).toNat) [.v (.int .i64 0)])) M
  have f2 := get_fresh e1 hr (x := .row 3 1 false (List.replicate ((n : Int).toNat) [.v (.int .i64 0)]))
  have f3 := e3.put hr (ob := .row 3 1 false (List.replicate ((n : Int).toNat) [.v (.int .i64 0)]))
  generalize M.put r (.row 3 1 false (List.replicate ((n : Int).toNat) [.v (.int .i64 0)])) = L0 at f1 f2 f3 ⊢
  rw [Int.toNat_natCast, range_const] at f1
  (apply s_q; decide; rfl; (simp only [go_sem]; rfl); apply s_nil; simp only [AThen, ABlock]; refine hK _ _ ?_; clear hK K; (iterate 2 (refine AWp_seq_k (fun K hK => ?_))); apply s_region; (iterate 3 (apply s_q; decide; rfl; (simp only [go_sem]; rfl))); apply s_nil; simp only [AThen, ABlock]; refine hK _ _ ?_; clear hK K; apply AWp_block)
  refine AWp_loop_s (σ := Nat × AHeap) [1, 3, 9, 10] (fun s => [ptrTo q, .row r 1 n, .v (.int .i64 n), .v (.int .i64 s.1)]) (fun s => s.2) (fun s => n - s.1)
    (fun s => s.1 ≤ n ∧ Ext H s.2 ∧ s.2.get q = some (.box 22 [.sl t (ks.map strCells)]) ∧ s.2.get r = some (.row 3 1 false ((List.range n).map fun j => natCells (if j < s.1 then j else 0)))) (0, L0) ⟨Nat.zero_le _, f3, f2, f1⟩ rfl rfl (fun s hs => ?_)
  obtain ⟨i, L⟩ := s
  obtain ⟨hi, hE, hqL, hrL⟩ := hs
  simp only [List.zip_cons_cons, List.zip_nil_right] at hi hE hqL hrL ⊢
  (refine AWp_seq_k (fun K hK => ?_); apply s_region; apply s_q; decide; rfl; (simp only [go_sem]; rfl); apply s_nil; simp only [AThen, ABlock]; refine hK _ _ ?_; clear hK K; refine AWp_seq_k (fun K hK => ?_))
  refine cond_split (by simp only [go_sem]; try rfl) (fun hd => ?_) (fun hd => ?_)
  · have hlt : i < n := by simpa using hd
    have hgk := get_range (fun j => natCells (if j < i then j else 0)) hlt
    have hlt4 : ((i : Int) < (n : Int)) = True := by simp; omega
    (apply AWp_skip; simp only [AThen, ABlock]; refine hK _ _ ?_; clear hK K; refine AWp_seq_k (fun K hK => ?_); apply AWp_block; refine AWp_seq_k (fun K hK => ?_); apply s_region; (iterate 2 (apply s_q; decide; rfl; (simp only [go_sem, hrL, hgk, hlt4]; rfl))); apply s_nil; simp only [AThen, ABlock]; refine hK _ _ ?_; clear hK K; apply s_region; (iterate 4 (apply s_q; decide; rfl; (simp only [go_sem, hrL, hgk, hlt4]; rfl))); apply s_store; (simp only [go_sem, hrL, hgk, hlt4]; rfl); (simp only [go_sem, hrL, hgk, hlt4]; rfl); (simp only [go_sem, hrL, hgk, hlt4]; rfl); apply s_nil; simp only [AThen, ABlock]; refine hK _ _ ?_; clear hK K; apply s_region; (iterate 2 (apply s_q; decide; rfl; (simp only [go_sem, hrL, hgk, hlt4]; rfl))); apply s_nil; simp only [AThen, ABlock])
    refine ⟨(i + 1, L.put r (.row 3 1 false (((List.range n).map fun j => natCells (if j < i then j else 0)).set i (natCells i)))), by simp only; omega, ⟨by simp only; omega, hE.over hHr, ?_, ?_⟩, ?_, by rfl⟩
    · exact get_other hqL (by rintro rfl; rw [hrL] at hqL; cases hqL)
    · simp only
      rw [AHeap.get_put_same, set_range]
      congr 3
      funext j
      by_cases e : j = i
      · subst e; simp
      · rw [if_neg e]
        congr 1
        by_cases h : j < i
        · rw [if_pos h, if_pos (by omega)]
        · rw [if_neg h, if_neg (by omega)]
    · simp only [getAll, List.map_cons, List.map_nil, AFr.get, reduceIte, Nat.reduceEqDiff]
      rw [wrapS hlt (by omega)]; try rfl
  · have hge : n = i := by simp at hd; omega
    subst hge
    have hrow : ((List.range n).map fun j => natCells (if j < n then j else 0)) = (List.range n).map natCells := List.map_congr_left fun j hj => by rw [if_pos (List.mem_range.1 hj)]
    rw [hrow] at hrL
    apply AWp_exit; simp only [AThen, ABlock, reduceIte, Nat.reduceEqDiff]; clear hK K; refine hK _ _ ?_; clear hK K
    refine AWp_cut [1, 3] (vs := [ptrTo q, .row r 1 n]) rfl ?_
    simp only [List.zip_cons_cons, List.zip_nil_right]
    refine AWp.freeze (t := 1) hqL rfl (by decide) ?_
    have hqN : H.get q = none := hq
    have g1 : (L.del q).get r = some (.row 3 1 false ((List.range n).map natCells)) := by rw [AHeap.get_del, if_neg (by rintro rfl; rw [hrL] at hqL; cases hqL)]; exact hrL
    have g2 := hE.del hqN
    generalize L.del q = L1 at g1 g2 ⊢
    (refine AWp_seq_k (fun K hK => ?_); apply s_region; (iterate 2 (apply s_q; decide; rfl; (simp only [go_sem]; rfl))))
    apply s_call; decide; exact (by simp only [go_sem]; try rfl); exact (by simp only [go_sem]; try rfl)
    refine ACall_sortB (k := 1) (mkA := fun bs => bs.headD .top) (es := (List.range n).map natCells) (c := fun i j => cmpS (ks.getD i []) (ks.getD j [])) sorts62 (by kernel_rfl) (by kernel_rfl) mk_one (.inr ⟨r, by rw [List.length_map, List.length_range], g1⟩) (by simp; omega) (fun x hx => ?_) (cmpS_swo ks _) (fun i j x y hx hy K2 hK2 => ?_) (fun p L5 hp1 hp2 hp3 => ?_)
    · obtain ⟨d, _, rfl⟩ := List.mem_map.1 hx; rfl
    · have hi : i < n := by have := (List.getElem?_eq_some_iff.1 hx).1; simpa using this
      have hj : j < n := by have := (List.getElem?_eq_some_iff.1 hy).1; simpa using this
      rw [get_range natCells hi] at hx
      rw [get_range natCells hj] at hy
      cases hx; cases hy
      refine cmpAt_c t ks i j (ks.getD i []) (ks.getD j []) ?_ ?_ _ K2 hK2
      · rw [List.getD_eq_getElem?_getD, List.getElem?_eq_getElem (by omega)]; rfl
      · rw [List.getD_eq_getElem?_getD, List.getElem?_eq_getElem (by omega)]; rfl
    rw [List.length_map, List.length_range, ← hnl] at hp1
    have hpp := places_of_sort hn hp1 hp2
    subst hpp
    rw [hnl] at hp1
    rw [perm_nat hp1] at hp3
    rcases hp3 with ⟨h0, _⟩ | ⟨b, h0, _, rfl⟩
    · cases h0
    rw [List.length_map, List.length_range] at h0
    cases h0
    (apply s_nil; simp only [AThen, ABlock]; refine hK _ _ ?_; clear hK K; refine AWp_seq_k (fun K hK => ?_); apply s_region; (iterate 2 (apply s_q; decide; rfl; (simp only [go_sem]; rfl))); apply s_nil; simp only [AThen, ABlock]; refine hK _ _ ?_; clear hK K; apply AWp_ret)
    have hlen : ((placesOf ks).map natCells).length = n := by rw [List.length_map, places_len, hnl]
    have hR : RowAt 3 1 H (L1.put r (.row 3 1 false ((placesOf ks).map natCells))) ((placesOf ks).map natCells) (.row r 1 n) := .inr ⟨r, hHr, by rw [hlen], AHeap.get_put_same _ _ _⟩
    exact hR.toGr (g2.over hHr)
end Go.Proofs.YtcpfgjfiacfmoaaGreatDoor

set_option linter.unusedSimpArgs false
set_option linter.unusedVariables false
set_option maxRecDepth 100000
namespace Go.Proofs.YtcpfgjfiacfmoaaGreatDoor
open Go Go.AL
attribute [local irreducible] AOps AWp SOps AE AT ACall AApp

theorem zc_json : zC X.P 25 = some [.v (.int .i64 0), .v (.int .i64 0), .s [], .sl true [], .sl true []] := zc_25
theorem jget_at {l : List J} {i : Nat} {c : J} (h : l[i]? = some c) : (l.map J.cells)[i]? = some [.v (.int .i64 c.kind), .v (.int .i64 c.int), .s c.text, .sl false (c.keys.map strCells), .sl false (c.list.map J.cells)] := by
  rw [List.getElem?_map, h, ← J.cells_eq]; rfl
theorem jstr_at {l : List (List UInt8)} {i : Nat} {c : List UInt8} (h : l[i]? = some c) : (l.map strCells)[i]? = some [.s c] := by rw [List.getElem?_map, h]; rfl
abbrev jbox (k n : Int) (t : List UInt8) (a c : AV) : AObj := .box 25 [.v (.int .i64 k), .v (.int .i64 n), .s t, a, c]
set_option maxHeartbeats 2000000 in
theorem ordered_c : ∀ (n : Nat) (j : J), goodB n j = true → J.Fit j → ∀ (H : AHeap) (Kc : AV → AHeap → Prop), Kc (.agg j.ord.cells) H → ACall X 132 [.agg j.cells] H Kc := fun n => by
  induction n with
  | zero => intro j h; cases h
  | succ n ih =>
  intro j hg hf H Kc h
  obtain ⟨⟨f1, f1'⟩, f2, f3, f4⟩ := fit_eq.1 hf
  have hsh := good_shaped hg
  have hch : ∀ x ∈ j.list, goodB n x = true := by
    simp only [goodB, Bool.and_eq_true, List.all_eq_true] at hg; exact hg.2
  refine ACall.post ?_
  rw [J.cells_eq]
  refine ACall_intro Tryz.func132 rfl (by kernel_rfl) (by rw [Tryz.ntmps132]; simp) ?_; rw [Tryz.ntmps132]; simp only [frame0, Nat.reduceAdd]
  refine AWp_seq_k (fun K hK => ?_); apply s_region
  apply s_box; decide; exact (by simp only [go_sem]; try rfl); exact (by simp only [go_sem]; try rfl); intro p hp
  apply s_alloc; decide; exact zc_json; intro r hr
  apply s_nil; simp only [AThen, ABlock]; refine hK _ _ ?_; clear hK K
  have g1 := get_fresh (AHeap.get_put_same p (jbox j.kind j.int j.text (.sl false (j.keys.map strCells)) (.sl false (j.list.map J.cells))) H) hr (x := jbox 0 0 [] (.sl true []) (.sl true []))
  have g2 := AHeap.get_put_same r (jbox 0 0 [] (.sl true []) (.sl true [])) (H.put p (jbox j.kind j.int j.text (.sl false (j.keys.map strCells)) (.sl false (j.list.map J.cells))))
  have g3 := (Ext.fresh hp (o := jbox j.kind j.int j.text (.sl false (j.keys.map strCells)) (.sl false (j.list.map J.cells)))).put hr (ob := jbox 0 0 [] (.sl true []) (.sl true []))
  have hHr : H.get r = none := none_fresh hr
  generalize (H.put p (jbox j.kind j.int j.text (.sl false (j.keys.map strCells)) (.sl false (j.list.map J.cells)))).put r (jbox 0 0 [] (.sl true []) (.sl true [])) = M at g1 g2 g3 ⊢
  (refine AWp_seq_k (fun K hK => ?_); apply s_region; (iterate 7 (apply s_q; decide; rfl; (simp only [go_sem, g1]; rfl))); apply s_alloc; decide; exact zc_25; intro b hb; apply s_store; (simp only [go_sem, g1]; rfl); (simp only [go_sem, g1]; rfl); (simp only [go_sem, g1]; rfl); apply s_nil; simp only [AThen, ABlock]; refine hK _ _ ?_; clear hK K; (iterate 2 (refine AWp_seq_k (fun K hK => ?_))); apply s_region; apply s_q; decide; rfl; (simp only [go_sem, g1]; rfl))
  obtain ⟨o, hoe⟩ : ∃ b3, b3 = b := ⟨_, rfl⟩
  have ho := hb
  rw [← hoe] at ho ⊢
  clear hb hoe b
  have k1 := get_fresh g1 ho (x := jbox j.kind j.int j.text (.sl true []) (.sl true []))
  have k2 := get_fresh g2 ho (x := jbox j.kind j.int j.text (.sl true []) (.sl true []))
  have k3 := AHeap.get_put_same o (jbox j.kind j.int j.text (.sl true []) (.sl true [])) M
  have k4 := g3.put ho (ob := jbox j.kind j.int j.text (.sl true []) (.sl true []))
  have hHo : H.get o = none := none_of_ext g3 ho
  have hpo := get_ne_fresh g1 ho
  have hro := get_ne_fresh g2 ho
  generalize M.put o (jbox j.kind j.int j.text (.sl true []) (.sl true [])) = M2 at k1 k2 k3 k4 ⊢
  clear g1 g2 g3 ho M
  have hend : ∀ (xs : List (List UInt8)) (ys : List J) (a c : AV) (L : AHeap), j.ord = .mk j.kind j.int j.text xs ys → Ext H L → L.get r = some (jbox 0 0 [] (.sl true []) (.sl true [])) → RowAt 9 1 H L (xs.map strCells) a → RowAt 25 5 H L (ys.map J.cells) c →
      storeK L (AL.sz? X.P 25) (ptrTo r) (.agg [.v (.int .i64 j.kind), .v (.int .i64 j.int), .s j.text, a, c]) = some (L.put r (jbox j.kind j.int j.text a c)) ∧
      ∃ K, Snap X [.agg [.v (.int .i64 j.kind), .v (.int .i64 j.int), .s j.text, a, c]] (L.put r (jbox j.kind j.int j.text a c)) [.agg j.ord.cells] K ∧ K = H := fun xs ys a c L e1 e2 e3 e4 e5 => by
    refine ⟨?_, H, ?_, rfl⟩
    · rcases e4 with ⟨rfl, _⟩ | ⟨_, _, rfl, _⟩ <;> rcases e5 with ⟨rfl, _⟩ | ⟨_, _, rfl, _⟩ <;> simp only [go_sem, e3] <;> rfl
    · have hra := e4.put (o' := jbox j.kind j.int j.text a c) e3 (fun _ _ _ h => by cases h)
      have hrc := e5.put (o' := jbox j.kind j.int j.text a c) e3 (fun _ _ _ h => by cases h)
      have := snap_two (X := X) (pre := [.v (.int .i64 j.kind), .v (.int .i64 j.int), .s j.text]) hra hrc (e2.over hHr) (by decide) (fun _ _ _ => rfl) (fun b sz es => snap_strs b sz es _)
      rw [e1, J.cells_eq]
      exact this
  ((iterate 2 (apply s_q; decide; rfl; (simp only [go_sem, k1]; rfl))); apply s_nil; simp only [AThen, ABlock]; refine hK _ _ ?_; clear hK K)
  refine cond_split (by simp only [go_sem]; try rfl) (fun h5 => ?_) (fun h5 => ?_)
  · have h5 : j.kind = 5 := by simpa using h5
    obtain ⟨s1, s2, s3⟩ := shaped_map hsh h5
    obtain ⟨pl, hpl⟩ : ∃ pl, placesOf j.keys = pl := ⟨_, rfl⟩
    have hpll : pl.length = j.keys.length := by rw [← hpl, places_len]
    have hplt : ∀ i ∈ pl, i < j.keys.length := fun i hi => places_lt (by rw [hpl]; exact hi)
    ((iterate 2 (refine AWp_seq_k (fun K hK => ?_))); apply s_region; (iterate 2 (apply s_q; decide; rfl; (simp only [go_sem, k1]; rfl))); apply s_call; decide; (simp only [go_sem, k1]; rfl); (simp only [go_sem, k1]; rfl); apply places_c false j.keys s2 (by omega); (iterate 2 (apply s_q; decide; rfl; (simp only [go_sem, k1]; rfl))); apply s_nil; simp only [AThen, ABlock]; refine hK _ _ ?_; clear hK K; apply AWp_block)
    rw [hpl]
    skip
    refine AWp_loop_s (σ := Nat × AV × AV × AHeap) [1, 2, 3, 20, 21, 22] (fun s => [ptrTo p, ptrTo r, ptrTo o, .sl false (pl.map natCells), .v (.int .i64 (pl.length : Nat)), .v (.int .i64 s.1)]) (fun s => s.2.2.2) (fun s => pl.length - s.1)
      (fun s => s.1 ≤ pl.length ∧ Ext H s.2.2.2 ∧ s.2.2.2.get r = some (jbox 0 0 [] (.sl true []) (.sl true [])) ∧ s.2.2.2.get p = some (jbox j.kind j.int j.text (.sl false (j.keys.map strCells)) (.sl false (j.list.map J.cells))) ∧ s.2.2.2.get o = some (jbox j.kind j.int j.text s.2.1 s.2.2.1) ∧
        RowAt 9 1 H s.2.2.2 (((pl.take s.1).map fun i => j.keys.getD i []).map strCells) s.2.1 ∧ RowAt 25 5 H s.2.2.2 (((pl.take s.1).map fun i => (j.list.map J.ord).getD i (.mk 0 0 [] [] [])).map J.cells) s.2.2.1)
      (0, .sl true [], .sl true [], M2) ⟨Nat.zero_le _, k4, k2, k1, k3, RowAt.nil _ _ _ _, RowAt.nil _ _ _ _⟩ rfl rfl (fun s hs => ?_)
    obtain ⟨m, a, c, L⟩ := s
    obtain ⟨hm, hE, hrL, hpL, hoL, hRa, hRc⟩ := hs
    clear k1 k2 k3 k4
    simp only [List.zip_cons_cons, List.zip_nil_right] at hm hE hrL hpL hoL hRa hRc ⊢
    (refine AWp_seq_k (fun K hK => ?_); apply s_region; apply s_q; decide; rfl; (simp only [go_sem]; rfl); apply s_nil; simp only [AThen, ABlock]; refine hK _ _ ?_; clear hK K; refine AWp_seq_k (fun K hK => ?_))
    refine cond_split (by simp only [go_sem]; try rfl) (fun hd => ?_) (fun hd => ?_)
    · have hlt : m < pl.length := by simpa using hd
      obtain ⟨i, hi⟩ := gete hlt
      have hik := hplt i (List.mem_of_getElem? hi)
      have hgi := nat_at hi
      obtain ⟨ky, hky⟩ := gete hik
      have hgk := jstr_at hky
      obtain ⟨x, hx⟩ := gete (l := j.list) (i := i) (by omega)
      have hgx := jget_at hx
      have hxm := List.mem_of_getElem? hx
      have hc5 := J.cells_eq x.ord
      have e1 : (pl.take (m + 1)).map (fun i => j.keys.getD i []) = (pl.take m).map (fun i => j.keys.getD i []) ++ [ky] := by
        rw [take_succ hi, List.map_append, List.map_singleton, List.getD_eq_getElem?_getD, hky]; rfl
      have e2 : (pl.take (m + 1)).map (fun i => (j.list.map J.ord).getD i (.mk 0 0 [] [] [])) = (pl.take m).map (fun i => (j.list.map J.ord).getD i (.mk 0 0 [] [] [])) ++ [x.ord] := by
        rw [take_succ hi, List.map_append, List.map_singleton, List.getD_eq_getElem?_getD, List.getElem?_map, hx]; rfl
      obtain ⟨us, hus⟩ : ∃ us, (pl.take m).map (fun i => j.keys.getD i []) = us := ⟨_, rfl⟩
      obtain ⟨vs, hvs⟩ : ∃ vs, (pl.take m).map (fun i => (j.list.map J.ord).getD i (.mk 0 0 [] [] [])) = vs := ⟨_, rfl⟩
      have hul : us.length ≤ 1000000000 := by rw [← hus]; simp; omega
      have hvl : vs.length ≤ 1000000000 := by rw [← hvs]; simp; omega
      rw [hus] at hRa e1
      rw [hvs] at hRc e2
      have pLs := less_get (e := 9) hpL (fun _ _ _ h => by cases h)
      have oLs := less_get (e := 9) hoL (fun _ _ _ h => by cases h)
      (apply AWp_skip; simp only [AThen, ABlock]; refine hK _ _ ?_; clear hK K; refine AWp_seq_k (fun K hK => ?_); apply AWp_block; refine AWp_seq_k (fun K hK => ?_); apply s_region; (iterate 3 (apply s_q; decide; rfl; (simp only [go_sem, hgi]; rfl))); apply s_nil; simp only [AThen, ABlock]; refine hK _ _ ?_; clear hK K; refine AWp_seq_k (fun K hK => ?_))
      apply AWp_drawAH [0, 1, 2, 3, 4, 5, 6, 7, 9] [8, 10] 1 (less_ext 9 L) (by exact mixed); kernel_rfl; (simp only [go_sem]; rfl); (simp only [go_sem]; rfl)
      ((iterate 7 (apply e_q; decide; (simp only [go_sem, pLs, oLs, hgk]; rfl))); apply e_lit; decide; exact el_22; (simp only [go_sem, pLs, oLs, hgk]; rfl); (simp only [go_sem, pLs, oLs, hgk]; rfl); decide; apply e_q; decide; (simp only [go_sem, pLs, oLs, hgk]; rfl); apply e_nil; apply t_append; decide; (simp only [go_sem, pLs, oLs, hgk]; rfl); (simp only [go_sem, pLs, oLs, hgk]; rfl); apply AApp_at el_22 hE hRa (l := us) (m := [ky]) (g := strCells) rfl rfl tk_22 str_one (by simp; omega) (by simp; omega); intro s1 L1 ra rb rc; have hx1 := rc.less; refine ⟨by (intro _; assumption), ?_⟩)
      have w1 := rc o _ hoL (fun _ _ _ h => by cases h)
      have w2 := rc r _ hrL (fun _ _ _ h => by cases h)
      have w3 := rc p _ hpL (fun _ _ _ h => by cases h)
      have w4 := rc.row (by decide) hRc
      obtain ⟨b1, hb1, rfl, hb1g⟩ := ra.row (by simp)
      have ra' : RowAt 9 1 H L1 _ _ := .inr ⟨b1, hb1, rfl, hb1g⟩
      (apply t_storex; (simp only [go_sem, w1]; rfl); (simp only [go_sem, w1]; rfl); (simp only [go_sem, w1]; rfl); (first | (intro _; exact Ext.put (Ext.refl _) (by assumption)) | (intro h; exact absurd h (by decide)) | (intro _; exact Ext.put (by assumption) (by assumption)) | (intro _; refine Ext.over (c := _) ?_ ?_ <;> assumption)); apply t_nil; simp only [AThen, ABlock]; refine hK _ _ ?_; clear hK K)
      have q1 := ra'.put (o' := jbox j.kind j.int j.text (.row b1 1 (us ++ [ky]).length) c) w1 (fun _ _ _ h => by cases h)
      have q2 := w4.put (o' := jbox j.kind j.int j.text (.row b1 1 (us ++ [ky]).length) c) w1 (fun _ _ _ h => by cases h)
      have q3 := AHeap.get_put_same o (jbox j.kind j.int j.text (.row b1 1 (us ++ [ky]).length) c) L1
      have q4 := get_other (x := jbox j.kind j.int j.text (.row b1 1 (us ++ [ky]).length) c) w2 hro
      have q5 := get_other (x := jbox j.kind j.int j.text (.row b1 1 (us ++ [ky]).length) c) w3 hpo
      have q6 := rb.over hHo (o := jbox j.kind j.int j.text (.row b1 1 (us ++ [ky]).length) c)
      simp only [List.length_map] at q1
      generalize L1.put o (jbox j.kind j.int j.text (.row b1 1 (us ++ [ky]).length) c) = L2 at q1 q2 q3 q4 q5 q6 ⊢
      clear w1 w2 w3 w4 ra ra' rb rc hx1 hb1g pLs oLs
      have pLs := less_get (e := 25) q5 (fun _ _ _ h => by cases h)
      have oLs := less_get (e := 25) q3 (fun _ _ _ h => by cases h)
      apply AWp_drawAH [0, 1, 2, 3, 4, 5, 6, 7, 8, 10] [9, 11] 1 (less_ext 25 L2) (by exact mixed); kernel_rfl; (simp only [go_sem]; rfl); (simp only [go_sem]; rfl)
      ((iterate 7 (apply e_q; decide; (simp only [go_sem, pLs, oLs, hgx, hc5]; rfl))); apply e_call; decide; (simp only [go_sem, pLs, oLs, hgx, hc5]; rfl); (simp only [go_sem, pLs, oLs, hgx, hc5]; rfl); (refine ACall.args_eq (bs := [.agg x.cells]) (by rw [J.cells_eq x]) ?_; apply ih x (hch x hxm) (f4 x hxm); exact ⟨rfl, rfl⟩); apply e_lit; decide; exact el_23; (simp only [go_sem, pLs, oLs, hgx, hc5]; rfl); (simp only [go_sem, pLs, oLs, hgx, hc5]; rfl); decide; apply e_q; decide; (simp only [go_sem, pLs, oLs, hgx, hc5]; rfl); apply e_nil; apply t_append; decide; (simp only [go_sem, pLs, oLs, hgx, hc5]; rfl); (simp only [go_sem, pLs, oLs, hgx, hc5]; rfl); apply AApp_at el_23 q6 q2 (l := vs) (m := [x.ord]) (g := J.cells) rfl (by simp [hc5]) tk_23 J.one (by simp; omega) (by simp; omega); intro s2 L3 ra rb rc; have hx3 := rc.less; refine ⟨by (intro _; assumption), ?_⟩)
      have w1 := rc o _ q3 (fun _ _ _ h => by cases h)
      have w2 := rc r _ q4 (fun _ _ _ h => by cases h)
      have w3 := rc p _ q5 (fun _ _ _ h => by cases h)
      have w4 := rc.row (by decide) q1
      obtain ⟨b2, hb2, rfl, hb2g⟩ := ra.row (by simp)
      have ra' : RowAt 25 5 H L3 _ _ := .inr ⟨b2, hb2, rfl, hb2g⟩
      (apply t_storex; (simp only [go_sem, w1]; rfl); (simp only [go_sem, w1]; rfl); (simp only [go_sem, w1]; rfl); (first | (intro _; exact Ext.put (Ext.refl _) (by assumption)) | (intro h; exact absurd h (by decide)) | (intro _; exact Ext.put (by assumption) (by assumption)) | (intro _; refine Ext.over (c := _) ?_ ?_ <;> assumption)); apply t_nil; simp only [AThen, ABlock]; refine hK _ _ ?_; clear hK K; apply s_region; (iterate 2 (apply s_q; decide; rfl; (simp only [go_sem, w1]; rfl))); apply s_nil; simp only [AThen, ABlock])
      have z1 := ra'.put (o' := jbox j.kind j.int j.text (.row b1 1 (us ++ [ky]).length) (.row b2 5 (vs ++ [x.ord]).length)) w1 (fun _ _ _ h => by cases h)
      have z2 := w4.put (o' := jbox j.kind j.int j.text (.row b1 1 (us ++ [ky]).length) (.row b2 5 (vs ++ [x.ord]).length)) w1 (fun _ _ _ h => by cases h)
      simp only [List.length_map] at z1
      refine ⟨(m + 1, .row b1 1 (us ++ [ky]).length, .row b2 5 (vs ++ [x.ord]).length, L3.put o (jbox j.kind j.int j.text (.row b1 1 (us ++ [ky]).length) (.row b2 5 (vs ++ [x.ord]).length))), by simp only; omega, ⟨by simp only; omega, rb.over hHo, get_other w2 hro, get_other w3 hpo, AHeap.get_put_same _ _ _, ?_, ?_⟩, ?_, ?_⟩
      · simp only [e1]; exact z2
      · simp only [e2]; exact z1
      · simp only [getAll, List.map_cons, List.map_nil, AFr.get, reduceIte, Nat.reduceEqDiff]
        rw [wrapS hlt (by omega)]; try rfl
      · rfl
    · have hge : pl.length ≤ m := by simpa using hd
      rw [List.take_of_length_le hge] at hRa hRc
      have hord : j.ord = .mk j.kind j.int j.text (pl.map fun i => j.keys.getD i []) (pl.map fun i => (j.list.map J.ord).getD i (.mk 0 0 [] [] [])) := by rw [ord_eq, if_pos h5, hpl, h5]
      obtain ⟨z1, z2, z3, z4⟩ := hend _ _ a c L hord hE hrL hRa hRc
      have z5 := AHeap.get_put_same r (jbox j.kind j.int j.text a c) L
      subst z4
      (apply AWp_exit; simp only [AThen, ABlock, reduceIte, Nat.reduceEqDiff]; clear hK K; refine hK _ _ ?_; clear hK K; refine AWp_seq_k (fun K hK => ?_); apply s_region; apply s_q; decide; rfl; (simp only [go_sem, hoL]; rfl))
      apply s_store rfl rfl z1
      generalize L.put r (jbox j.kind j.int j.text a c) = L9 at z3 z5 ⊢
      (apply s_nil; simp only [AThen, ABlock]; refine hK _ _ ?_; clear hK K; apply AWp_ret)
      simp only [AThen, ABlock]
      refine end_ret (av := .agg [.v (.int .i64 j.kind), .v (.int .i64 j.int), .s j.text, a, c]) (by show resAV X.P _ _ [.cell 2 25] = _; simp only [go_sem, z5]; try rfl) ⟨_, _, z3, h⟩
  · have h5 : ¬ j.kind = 5 := by simpa using h5
    (apply AWp_skip; simp only [AThen, ABlock]; refine hK _ _ ?_; clear hK K; (iterate 2 (refine AWp_seq_k (fun K hK => ?_))); apply s_region; (iterate 4 (apply s_q; decide; rfl; (simp only [go_sem, k1]; rfl))); apply s_nil; simp only [AThen, ABlock]; refine hK _ _ ?_; clear hK K; apply AWp_block)
    refine AWp_loop_s (σ := Nat × AV × AHeap) [2, 3, 50, 51, 52] (fun s => [ptrTo r, ptrTo o, .sl false (j.list.map J.cells), .v (.int .i64 (j.list.length : Nat)), .v (.int .i64 s.1)]) (fun s => s.2.2) (fun s => j.list.length - s.1)
      (fun s => s.1 ≤ j.list.length ∧ Ext H s.2.2 ∧ s.2.2.get r = some (jbox 0 0 [] (.sl true []) (.sl true [])) ∧ s.2.2.get o = some (jbox j.kind j.int j.text (.sl true []) s.2.1) ∧ RowAt 25 5 H s.2.2 (((j.list.take s.1).map J.ord).map J.cells) s.2.1)
      (0, .sl true [], M2) ⟨Nat.zero_le _, k4, k2, k3, RowAt.nil _ _ _ _⟩ rfl rfl (fun s hs => ?_)
    obtain ⟨m, c, L⟩ := s
    obtain ⟨hm, hE, hrL, hoL, hR⟩ := hs
    clear k1 k2 k3 k4
    simp only [List.zip_cons_cons, List.zip_nil_right] at hm hE hrL hoL hR ⊢
    (refine AWp_seq_k (fun K hK => ?_); apply s_region; apply s_q; decide; rfl; (simp only [go_sem]; rfl); apply s_nil; simp only [AThen, ABlock]; refine hK _ _ ?_; clear hK K; refine AWp_seq_k (fun K hK => ?_))
    refine cond_split (by simp only [go_sem]; try rfl) (fun hd => ?_) (fun hd => ?_)
    · have hlt : m < j.list.length := by simpa using hd
      obtain ⟨x, hx⟩ := gete hlt
      have hgx := jget_at hx
      have hxm := List.mem_of_getElem? hx
      (apply AWp_skip; simp only [AThen, ABlock]; refine hK _ _ ?_; clear hK K; refine AWp_seq_k (fun K hK => ?_); apply AWp_block; refine AWp_seq_k (fun K hK => ?_); apply s_region; (iterate 2 (apply s_q; decide; rfl; (simp only [go_sem, hgx]; rfl))); apply s_alloc; decide; exact zc_25; intro b hb; apply s_store; (simp only [go_sem, hgx]; rfl); (simp only [go_sem, hgx]; rfl); (simp only [go_sem, hgx]; rfl); apply s_nil; simp only [AThen, ABlock]; refine hK _ _ ?_; clear hK K)
      obtain ⟨b5, hb5e⟩ : ∃ b3, b3 = b := ⟨_, rfl⟩
      have hb5 := hb
      rw [← hb5e] at hb5 ⊢
      clear hb hb5e b
      have q1 := get_fresh hrL hb5 (x := jbox x.kind x.int x.text (.sl false (x.keys.map strCells)) (.sl false (x.list.map J.cells)))
      have q2 := get_fresh hoL hb5 (x := jbox x.kind x.int x.text (.sl false (x.keys.map strCells)) (.sl false (x.list.map J.cells)))
      have q3 := AHeap.get_put_same b5 (jbox x.kind x.int x.text (.sl false (x.keys.map strCells)) (.sl false (x.list.map J.cells))) L
      have q4 := hE.put hb5 (ob := jbox x.kind x.int x.text (.sl false (x.keys.map strCells)) (.sl false (x.list.map J.cells)))
      have q5 := hR.ext (Ext.fresh hb5 (o := jbox x.kind x.int x.text (.sl false (x.keys.map strCells)) (.sl false (x.list.map J.cells))))
      generalize L.put b5 (jbox x.kind x.int x.text (.sl false (x.keys.map strCells)) (.sl false (x.list.map J.cells))) = L5 at q1 q2 q3 q4 q5 ⊢
      have hc5 := J.cells_eq x.ord
      have q2s := less_get (e := 25) q2 (fun _ _ _ h => by cases h)
      have q3s := less_get (e := 25) q3 (fun _ _ _ h => by cases h)
      apply AWp_drawAH [0, 1, 2, 3, 4, 6] [5, 7] 1 (less_ext 25 L5) (by exact mixed); kernel_rfl; (simp only [go_sem]; rfl); (simp only [go_sem]; rfl)
      ((iterate 3 (apply e_q; decide; (simp only [go_sem, q2s, q3s, hc5]; rfl))); apply e_call; decide; (simp only [go_sem, q2s, q3s, hc5]; rfl); (simp only [go_sem, q2s, q3s, hc5]; rfl); (refine ACall.args_eq (bs := [.agg x.cells]) (by rw [J.cells_eq x]) ?_; apply ih x (hch x hxm) (f4 x hxm); exact ⟨rfl, rfl⟩); apply e_lit; decide; exact el_23; (simp only [go_sem, q2s, q3s, hc5]; rfl); (simp only [go_sem, q2s, q3s, hc5]; rfl); decide; apply e_q; decide; (simp only [go_sem, q2s, q3s, hc5]; rfl); apply e_nil; apply t_append; decide; (simp only [go_sem, q2s, q3s, hc5]; rfl); (simp only [go_sem, q2s, q3s, hc5]; rfl); apply AApp_at el_23 q4 q5 (l := (j.list.take m).map J.ord) (m := [x.ord]) (g := J.cells) rfl (by simp [hc5]) tk_23 J.one (by simp; omega) (by simp; omega); intro s2 L3 r1 r2 r3; have hx3 := r3.less; refine ⟨by (intro _; assumption), ?_⟩)
      have w1 := r3 o _ q2 (fun _ _ _ h => by cases h)
      have w2 := r3 r _ q1 (fun _ _ _ h => by cases h)
      obtain ⟨rb, hrb, rfl, hrbg⟩ := r1.row (by simp)
      have r1' : RowAt 25 5 H L3 _ _ := .inr ⟨rb, hrb, rfl, hrbg⟩
      (apply t_storex; (simp only [go_sem, w1]; rfl); (simp only [go_sem, w1]; rfl); (simp only [go_sem, w1]; rfl); (first | (intro _; exact Ext.put (Ext.refl _) (by assumption)) | (intro h; exact absurd h (by decide)) | (intro _; exact Ext.put (by assumption) (by assumption)) | (intro _; refine Ext.over (c := _) ?_ ?_ <;> assumption)); apply t_nil; simp only [AThen, ABlock]; refine hK _ _ ?_; clear hK K; apply s_region; (iterate 2 (apply s_q; decide; rfl; (simp only [go_sem, w1]; rfl))); apply s_nil; simp only [AThen, ABlock])
      have r4 := r1'.put (o' := jbox j.kind j.int j.text (.sl true []) (.row rb 5 (((j.list.take m).map J.ord ++ [x.ord]).map J.cells).length)) w1 (fun _ _ _ h => by cases h)
      have e2 : (j.list.take (m + 1)).map J.ord = (j.list.take m).map J.ord ++ [x.ord] := by rw [take_succ hx]; simp
      refine ⟨(m + 1, .row rb 5 (((j.list.take m).map J.ord ++ [x.ord]).map J.cells).length, L3.put o (jbox j.kind j.int j.text (.sl true []) (.row rb 5 (((j.list.take m).map J.ord ++ [x.ord]).map J.cells).length))), by simp only; omega, ⟨by simp only; omega, r2.over hHo, get_other w2 hro, AHeap.get_put_same _ _ _, ?_⟩, ?_, ?_⟩
      · simp only [e2]; exact r4
      · simp only [getAll, List.map_cons, List.map_nil, AFr.get, reduceIte, Nat.reduceEqDiff]
        rw [wrapS hlt (by omega)]; try rfl
      · simp only [List.length_map]
    · have hge : j.list.length ≤ m := by simpa using hd
      rw [List.take_of_length_le hge] at hR
      have hord : j.ord = .mk j.kind j.int j.text [] (j.list.map J.ord) := by rw [ord_eq, if_neg h5]
      obtain ⟨z1, z2, z3, z4⟩ := hend [] (j.list.map J.ord) (.sl true []) c L hord hE hrL (.inl ⟨rfl, rfl⟩) hR
      have z5 := AHeap.get_put_same r (jbox j.kind j.int j.text (.sl true []) c) L
      subst z4
      (apply AWp_exit; simp only [AThen, ABlock, reduceIte, Nat.reduceEqDiff]; clear hK K; refine hK _ _ ?_; clear hK K; refine AWp_seq_k (fun K hK => ?_); apply s_region; apply s_q; decide; rfl; (simp only [go_sem, hoL]; rfl))
      apply s_store rfl rfl z1
      generalize L.put r (jbox j.kind j.int j.text (.sl true []) c) = L9 at z3 z5 ⊢
      (apply s_nil; simp only [AThen, ABlock]; refine hK _ _ ?_; clear hK K; apply AWp_ret)
      refine end_ret (av := .agg [.v (.int .i64 j.kind), .v (.int .i64 j.int), .s j.text, .sl true [], c]) (by show resAV X.P _ _ [.cell 2 25] = _; simp only [go_sem, z5]; try rfl) ⟨_, _, z3, h⟩
set_option maxHeartbeats 1000000 in
theorem Order_c (j : J) (hf : J.Fit j) {H : AHeap} {Kc : AV → AHeap → Prop} (h : Kc (.agg (if goodB 12 j then j.ord else J.mk 0 0 [] [] []).cells) H) : ACall X 99 [.agg j.cells] H Kc := by
  refine ACall.post ?_
  rw [J.cells_eq]
  refine ACall_intro Tryz.func99 rfl (by kernel_rfl) (by rw [Tryz.ntmps99]; simp) ?_; rw [Tryz.ntmps99]; simp only [frame0, Nat.reduceAdd]
  refine AWp_seq_k (fun K hK => ?_); apply s_region
  apply s_box; decide; exact (by simp only [go_sem]; try rfl); exact (by simp only [go_sem]; try rfl); intro p hp
  apply s_alloc; decide; exact zc_json; intro r hr
  apply s_nil; simp only [AThen, ABlock]; refine hK _ _ ?_; clear hK K
  have g1 := get_fresh (AHeap.get_put_same p (jbox j.kind j.int j.text (.sl false (j.keys.map strCells)) (.sl false (j.list.map J.cells))) H) hr (x := jbox 0 0 [] (.sl true []) (.sl true []))
  have g2 := AHeap.get_put_same r (jbox 0 0 [] (.sl true []) (.sl true [])) (H.put p (jbox j.kind j.int j.text (.sl false (j.keys.map strCells)) (.sl false (j.list.map J.cells))))
  have g3 := (Ext.fresh hp (o := jbox j.kind j.int j.text (.sl false (j.keys.map strCells)) (.sl false (j.list.map J.cells)))).put hr (ob := jbox 0 0 [] (.sl true []) (.sl true []))
  have hHr : H.get r = none := none_fresh hr
  generalize (H.put p (jbox j.kind j.int j.text (.sl false (j.keys.map strCells)) (.sl false (j.list.map J.cells)))).put r (jbox 0 0 [] (.sl true []) (.sl true [])) = M at g1 g2 g3 ⊢
  have hend : ∀ (a : J), storeK M (AL.sz? X.P 25) (ptrTo r) (.agg a.cells) = some (M.put r (jbox a.kind a.int a.text (.sl false (a.keys.map strCells)) (.sl false (a.list.map J.cells)))) ∧ Ext H (M.put r (jbox a.kind a.int a.text (.sl false (a.keys.map strCells)) (.sl false (a.list.map J.cells)))) := fun a => by
    refine ⟨?_, g3.over hHr⟩
    rw [J.cells_eq]; simp only [go_sem, g2]; try rfl
  ((iterate 2 (refine AWp_seq_k (fun K hK => ?_))); apply s_region; apply s_q; decide; rfl; (simp only [go_sem, g1]; rfl); apply s_call; decide; (simp only [go_sem, g1]; rfl); (simp only [go_sem, g1]; rfl); refine ACall.args_eq (bs := [.agg j.cells]) (by rw [J.cells_eq j]) ?_; apply Good_c j _ _ hf; apply s_q; decide; rfl; (simp only [go_sem, g1]; rfl); apply s_nil; simp only [AThen, ABlock]; refine hK _ _ ?_; clear hK K)
  refine cond_split (by simp only [go_sem]; try rfl) (fun hg => ?_) (fun hg => ?_)
  · have hg : goodB 12 j = false := by simpa using hg
    rw [hg] at h
    have z1 : storeK M (AL.sz? X.P 25) (ptrTo r) (.agg [.v (.int .i64 0), .v (.int .i64 0), .s [], .sl true [], .sl true []]) = some (M.put r (jbox 0 0 [] (.sl true []) (.sl true []))) := by simp only [go_sem, g2]; try rfl
    have z3 := AHeap.get_put_same r (jbox 0 0 [] (.sl true []) (.sl true [])) M
    (refine AWp_seq_k (fun K hK => ?_); apply s_region; apply s_q; decide; rfl; (simp only [go_sem, zc_json]; rfl))
    apply s_store rfl rfl z1
    (apply s_nil; simp only [AThen, ABlock]; refine hK _ _ ?_; clear hK K; apply AWp_ret)
    try simp only [AThen, ABlock]
    refine end_ret (av := .agg [.v (.int .i64 0), .v (.int .i64 0), .s [], .sl true [], .sl true []]) (by show resAV X.P _ _ [.cell 2 25] = _; simp only [go_sem, z3]; try rfl) ⟨_, _, Snap.trans Snap.loosen (Snap.drop (g3.over hHr)), h⟩
  · have hg : goodB 12 j = true := by simpa using hg
    rw [hg] at h
    obtain ⟨z1, z2⟩ := hend j.ord
    have z3 := AHeap.get_put_same r (jbox j.ord.kind j.ord.int j.ord.text (.sl false (j.ord.keys.map strCells)) (.sl false (j.ord.list.map J.cells))) M
    (apply AWp_skip; simp only [AThen, ABlock]; refine hK _ _ ?_; clear hK K; refine AWp_seq_k (fun K hK => ?_); apply s_region; apply s_q; decide; rfl; (simp only [go_sem, g1]; rfl); apply s_call; decide; (simp only [go_sem, g1]; rfl); (simp only [go_sem, g1]; rfl); refine ACall.args_eq (bs := [.agg j.cells]) (by rw [J.cells_eq j]) ?_; apply ordered_c 12 j hg hf)
    apply s_store rfl rfl z1
    (apply s_nil; simp only [AThen, ABlock]; refine hK _ _ ?_; clear hK K; apply AWp_ret)
    try simp only [AThen, ABlock]
    refine end_ret (av := .agg j.ord.cells) (by show resAV X.P _ _ [.cell 2 25] = _; simp only [go_sem, z3, J.cells_eq]; try rfl) ⟨_, _, Snap.drop z2, h⟩
end Go.Proofs.YtcpfgjfiacfmoaaGreatDoor

set_option linter.unusedSimpArgs false
set_option linter.unusedVariables false
set_option maxRecDepth 100000
namespace Go.Proofs.YtcpfgjfiacfmoaaGreatDoor
open Go Go.AL
attribute [local irreducible] AOps AWp SOps AE AT ACall AApp

theorem _root_.Go.AL.RowAt.set {e sz e' sz' c : Nat} {sn : Bool} {es0 : List (List AV)} {H0 L : AHeap} {es : List (List AV)} {a : AV} (h : RowAt e sz H0 L es a) (hc : L.get c = some (.row e' sz' sn es0)) (o' : AObj) (he : e ≠ e') : RowAt e sz H0 (L.put c o') es a := by
  rcases h with h | ⟨b, h1, h2, h3⟩
  · exact .inl h
  · refine .inr ⟨b, h1, h2, ?_⟩
    rw [AHeap.get_put]
    split
    · rename_i e1; subst e1; rw [hc] at h3; cases h3; exact absurd rfl he
    · exact h3
end Go.Proofs.YtcpfgjfiacfmoaaGreatDoor

set_option linter.unusedSimpArgs false
set_option linter.unusedVariables false
set_option maxRecDepth 100000
namespace Go.Proofs.YtcpfgjfiacfmoaaGreatDoor
open Go Go.AL
attribute [local irreducible] AOps AWp SOps AE AT ACall AApp

abbrev Nm := List UInt8 × Int
def nmCells (x : Nm) : List AV := [.s x.1, .v (.int .i64 x.2)]
theorem nm_one (a : Nm) : (nmCells a).length = 2 ∧ (nmCells a).all AV.one = true := ⟨rfl, rfl⟩
theorem nm_at {l : List Nm} {i : Nat} {c : Nm} (h : l[i]? = some c) : (l.map nmCells)[i]? = some [.s c.1, .v (.int .i64 c.2)] := by rw [List.getElem?_map, h]; rfl
def fndL (l : List Nm) (s : List UInt8) : Int × Bool := match l.find? (fun x => decide (x.1 = s)) with | some x => (x.2, true) | none => (0, false)
structure Lv where
  ban : Int
  kick : Int
  invite : Int
  redact : Int
  state : Int
  events : Int
  users : Int
  byUser : List Nm
  byType : List Nm
def Lv.cells (l : Lv) : List AV := [.v (.int .i64 l.ban), .v (.int .i64 l.kick), .v (.int .i64 l.invite), .v (.int .i64 l.redact), .v (.int .i64 l.state), .v (.int .i64 l.events), .v (.int .i64 l.users), .sl false (l.byUser.map nmCells), .sl false (l.byType.map nmCells)]
def Lv.user (l : Lv) (s : List UInt8) : Int := if (fndL l.byUser s).2 then (fndL l.byUser s).1 else l.users
def Lv.type (l : Lv) (s : List UInt8) (state : Bool) : Int := if (fndL l.byType s).2 then (fndL l.byType s).1 else if state then l.state else l.events
def lvStart (s : List UInt8) : Lv := ⟨50, 50, 0, 50, 0, 0, 0, [(s, 100)], []⟩
def Lv.Len (l : Lv) : Prop := l.byUser.length ≤ 1000000000 ∧ l.byType.length ≤ 1000000000

theorem findB_c (q : Nat) (s : List UInt8) (x : Nm) (H : AHeap) (hq : H.get q = some (.box 9 [.s s])) (Kc : AV → AHeap → Prop) (h : Kc (.v (.bool (decide (x.1 = s)))) H) : ACall X 139 [.agg (nmCells x), ptrTo q] H Kc := by
  rw [nmCells]
  refine ACall.drop ?_
  refine ACall_intro Tryz.func139 rfl (by kernel_rfl) (by rw [Tryz.ntmps139]; simp) ?_; rw [Tryz.ntmps139]; simp only [frame0, Nat.reduceAdd]
  refine AWp_seq_k (fun K hK => ?_); apply s_region
  apply s_box; decide; exact (by simp only [go_sem]; try rfl); exact (by simp only [go_sem]; try rfl); intro p hp
  (apply s_q; decide; rfl; (simp only [go_sem]; rfl); apply s_nil; simp only [AThen, ABlock]; refine hK _ _ ?_; clear hK K; refine AWp_seq_k (fun K hK => ?_); apply s_region; (iterate 2 (apply s_q; decide; rfl; (simp only [go_sem]; rfl))))
  have g1 := get_fresh hq hp (x := .box 98 [.s x.1, .v (.int .i64 x.2)])
  ((iterate 3 (apply s_q; decide; rfl; (simp only [go_sem, g1]; rfl))); apply s_nil; simp only [AThen, ABlock]; refine hK _ _ ?_; clear hK K; apply AWp_ret)
  exact ⟨H, Ext.fresh hp, h⟩
set_option maxHeartbeats 1000000 in
theorem indexFuncN_c (g : FuncId) (cap : List AV) (p : Nm → Bool) (t : Bool) (l : List Nm) (hl : l.length ≤ 4611686018427387904) (H : AHeap) (hg : ∀ x ∈ l, ∀ K : AV → AHeap → Prop, K (.v (.bool (p x))) H → ACall X g ([.agg (nmCells x)] ++ cap) H K) (Kc : AV → AHeap → Prop)
    (h : Kc (.v (.int .i64 (firstI p l))) H) : ACall X 138 [.sl t (l.map nmCells), .fn (.func g) [] cap] H Kc := by
  refine ACall_intro Tryz.func138 rfl (by kernel_rfl) (by rw [Tryz.ntmps138]; simp) ?_; rw [Tryz.ntmps138]; simp only [frame0, Nat.reduceAdd]
  (refine AWp_seq_k (fun K hK => ?_); apply s_region; apply s_q; decide; rfl; (simp only [go_sem]; rfl); apply s_nil; simp only [AThen, ABlock]; refine hK _ _ ?_; clear hK K; (iterate 2 (refine AWp_seq_k (fun K hK => ?_))); apply s_region; (iterate 3 (apply s_q; decide; rfl; (simp only [go_sem]; rfl))); apply s_nil; simp only [AThen, ABlock]; refine hK _ _ ?_; clear hK K; apply AWp_block)
  refine AWp_loop_s (σ := Nat) [0, 1, 7, 8] (fun i => [.sl t (l.map nmCells), .fn (.func g) [] cap, .v (.int .i64 l.length), .v (.int .i64 i)]) (fun _ => H) (fun i => l.length - i) (fun i => i ≤ l.length ∧ ∀ x ∈ l.take i, p x = false) 0 ⟨Nat.zero_le _, by simp⟩ rfl rfl (fun i hi => ?_)
  simp only [List.zip_cons_cons, List.zip_nil_right]
  (refine AWp_seq_k (fun K hK => ?_); apply s_region; apply s_q; decide; rfl; (simp only [go_sem]; rfl); apply s_nil; simp only [AThen, ABlock]; refine hK _ _ ?_; clear hK K; refine AWp_seq_k (fun K hK => ?_))
  refine cond_split (by simp only [go_sem]; try rfl) (fun hd => ?_) (fun hd => ?_)
  · have hlt : i < l.length := by simpa using hd
    obtain ⟨x, hm⟩ := gete hlt
    have hgx := nm_at hm
    have hxm := List.mem_of_getElem? hm
    (apply AWp_skip; simp only [AThen, ABlock]; refine hK _ _ ?_; clear hK K; refine AWp_seq_k (fun K hK => ?_); apply AWp_block; refine AWp_seq_k (fun K hK => ?_); apply s_region; (iterate 2 (apply s_q; decide; rfl; (simp only [go_sem, hgx]; rfl))); apply s_nil; simp only [AThen, ABlock]; refine hK _ _ ?_; clear hK K; refine AWp_seq_k (fun K hK => ?_); apply s_region; (iterate 5 (apply s_q; decide; rfl; (simp only [go_sem, hgx]; rfl))); apply s_call; decide; (simp only [go_sem, hgx]; rfl); (simp only [go_sem, hgx]; rfl); apply hg x hxm; apply s_nil; simp only [AThen, ABlock]; refine hK _ _ ?_; clear hK K)
    refine cond_split (by simp only [go_sem]; try rfl) (fun hq => ?_) (fun hq => ?_)
    · (refine AWp_seq_k (fun K hK => ?_); apply s_region; (iterate 2 (apply s_q; decide; rfl; (simp only [go_sem]; rfl))); apply s_nil; simp only [AThen, ABlock]; refine hK _ _ ?_; clear hK K; apply AWp_ret; simp only [AThen, ABlock]; apply end_ret; rfl; simp only [AFr.get, reduceIte, Nat.reduceEqDiff])
      exact finI h (firstI_some hi.2 hm hq).symm
    · (apply AWp_skip; simp only [AThen, ABlock]; refine hK _ _ ?_; clear hK K; apply s_region; (iterate 2 (apply s_q; decide; rfl; (simp only [go_sem]; rfl))); apply s_nil; simp only [AThen, ABlock])
      refine ⟨i + 1, by omega, ⟨by omega, ?_⟩, ?_, by trivial⟩
      · rw [List.take_add_one, hm]
        intro y hy
        rcases List.mem_append.1 hy with hy | hy
        · exact hi.2 y hy
        · simp at hy; subst hy; exact hq
      · simp only [getAll, List.map_cons, List.map_nil, AFr.get, reduceIte, Nat.reduceEqDiff]
        rw [wrapS hlt (by omega)]; try rfl
  · have hge : l.length ≤ i := by simpa using hd
    (apply AWp_exit; simp only [AThen, ABlock, reduceIte, Nat.reduceEqDiff]; clear hK K; refine hK _ _ ?_; clear hK K; refine AWp_seq_k (fun K hK => ?_); apply s_region; apply s_q; decide; rfl; (simp only [go_sem]; rfl); apply s_nil; simp only [AThen, ABlock]; refine hK _ _ ?_; clear hK K; apply AWp_ret)
    have := hi.2
    rw [List.take_of_length_le hge] at this
    exact finI h (firstI_none this).symm
theorem firstI_cases {α : Type} (p : α → Bool) (l : List α) : (firstI p l = -1 ∧ l.find? p = none) ∨ ∃ i x, firstI p l = ((i : Nat) : Int) ∧ l[i]? = some x ∧ l.find? p = some x := by
  rw [firstI]
  cases h : l.findIdx? p with
  | none =>
    left
    refine ⟨rfl, ?_⟩
    rw [List.findIdx?_eq_none_iff] at h
    rw [List.find?_eq_none]
    intro x hx
    simp [h x hx]
  | some i =>
    right
    obtain ⟨hi, h1, h2⟩ := List.findIdx?_eq_some_iff_getElem.1 h
    refine ⟨i, l[i], rfl, List.getElem?_eq_getElem hi, ?_⟩
    rw [List.find?_eq_some_iff_getElem]
    exact ⟨h1, i, hi, rfl, fun j hj => by simpa using h2 j hj⟩
set_option maxHeartbeats 1000000 in
theorem find_c (t : Bool) (l : List Nm) (hl : l.length ≤ 4611686018427387904) (s : List UInt8) (H : AHeap) (Kc : AV → AHeap → Prop) (h : Kc (.tup [.v (.int .i64 (fndL l s).1), .v (.bool (fndL l s).2)]) H) : ACall X 104 [.sl t (l.map nmCells), .s s] H Kc := by
  refine ACall.drop ?_
  refine ACall_intro Tryz.func104 rfl (by kernel_rfl) (by rw [Tryz.ntmps104]; simp) ?_; rw [Tryz.ntmps104]; simp only [frame0, Nat.reduceAdd]
  refine AWp_seq_k (fun K hK => ?_); apply s_region
  apply s_box; decide; exact (by simp only [go_sem]; try rfl); exact (by simp only [go_sem]; try rfl); intro q hq
  have g1 := AHeap.get_put_same q (.box 9 [.s s]) H
  have hE := Ext.fresh hq (o := .box 9 [.s s])
  generalize H.put q (.box 9 [.s s]) = M at g1 hE ⊢
  ((iterate 2 (apply s_q; decide; rfl; (simp only [go_sem]; rfl))); apply s_nil; simp only [AThen, ABlock]; refine hK _ _ ?_; clear hK K; refine AWp_seq_k (fun K hK => ?_); apply s_region; (iterate 2 (apply s_q; decide; rfl; (simp only [go_sem]; rfl))); apply s_call; decide; (simp only [go_sem]; rfl); (simp only [go_sem]; rfl); apply indexFuncN_c 139 [ptrTo q] (fun x => decide (x.1 = s)) t l hl _ (fun x _ K hK => findB_c q s x _ g1 K hK); apply s_q; decide; rfl; (simp only [go_sem]; rfl); apply s_nil; simp only [AThen, ABlock]; refine hK _ _ ?_; clear hK K; (iterate 2 (refine AWp_seq_k (fun K hK => ?_))); apply s_region; (iterate 2 (apply s_q; decide; rfl; (simp only [go_sem]; rfl))); apply s_nil; simp only [AThen, ABlock]; refine hK _ _ ?_; clear hK K)
  rcases firstI_cases (fun x : Nm => decide (x.1 = s)) l with ⟨e1, e2⟩ | ⟨i, x, e1, e2, e3⟩
  · rw [e1]
    rw [fndL, e2] at h
    refine cond_split (by simp only [go_sem]; try rfl) (fun hc => ?_) (fun hc => ?_)
    · (refine AWp_seq_k (fun K hK => ?_); apply s_region; (iterate 2 (apply s_q; decide; rfl; (simp only [go_sem]; rfl))); apply s_nil; simp only [AThen, ABlock]; refine hK _ _ ?_; clear hK K; apply AWp_ret; simp only [AThen, ABlock]; apply end_ret; rfl; simp only [AFr.get, reduceIte, Nat.reduceEqDiff])
      exact ⟨H, hE, h⟩
    · cases hc
  · rw [e1]
    rw [fndL, e3] at h
    have hgx := nm_at e2
    refine cond_split (by simp only [go_sem]; try rfl) (fun hc => ?_) (fun hc => ?_)
    · simp at hc; omega
    · (apply AWp_skip; simp only [AThen, ABlock]; refine hK _ _ ?_; clear hK K; refine AWp_seq_k (fun K hK => ?_); apply s_region; (iterate 7 (apply s_q; decide; rfl; (simp only [go_sem, hgx]; rfl))); apply s_nil; simp only [AThen, ABlock]; refine hK _ _ ?_; clear hK K; apply AWp_ret)
      exact ⟨H, hE, h⟩
end Go.Proofs.YtcpfgjfiacfmoaaGreatDoor

set_option linter.unusedSimpArgs false
set_option linter.unusedVariables false
set_option maxRecDepth 100000
namespace Go.Proofs.YtcpfgjfiacfmoaaGreatDoor
open Go Go.AL
attribute [local irreducible] AOps AWp SOps AE AT ACall AApp

abbrev lvbox (l : Lv) : AObj := .box 58 [.v (.int .i64 l.ban), .v (.int .i64 l.kick), .v (.int .i64 l.invite), .v (.int .i64 l.redact), .v (.int .i64 l.state), .v (.int .i64 l.events), .v (.int .i64 l.users), .sl false (l.byUser.map nmCells), .sl false (l.byType.map nmCells)]

theorem puser_c (l : Lv) (hl : l.Len) (s : List UInt8) (H : AHeap) (Kc : AV → AHeap → Prop) (h : Kc (.v (.int .i64 (l.user s))) H) : ACall X 69 [.agg l.cells, .s s] H Kc := by
  refine ACall.drop ?_
  rw [Lv.cells]
  refine ACall_intro Tryz.func69 rfl (by kernel_rfl) (by rw [Tryz.ntmps69]; simp) ?_; rw [Tryz.ntmps69]; simp only [frame0, Nat.reduceAdd]
  refine AWp_seq_k (fun K hK => ?_); apply s_region
  apply s_box; decide; exact (by simp only [go_sem]; try rfl); exact (by simp only [go_sem]; try rfl); intro q hq
  have g1 := AHeap.get_put_same q (lvbox l) H
  have hE := Ext.fresh hq (o := lvbox l)
  generalize H.put q (lvbox l) = M at g1 hE ⊢
  (apply s_q; decide; rfl; (simp only [go_sem, g1]; rfl); apply s_nil; simp only [AThen, ABlock]; refine hK _ _ ?_; clear hK K; (iterate 2 (refine AWp_seq_k (fun K hK => ?_))); apply s_region; (iterate 3 (apply s_q; decide; rfl; (simp only [go_sem, g1]; rfl))); apply s_call; decide; (simp only [go_sem, g1]; rfl); (simp only [go_sem, g1]; rfl); apply find_c false l.byUser (by have := hl.1; omega) s; (iterate 5 (apply s_q; decide; rfl; (simp only [go_sem, g1]; rfl))); apply s_nil; simp only [AThen, ABlock]; refine hK _ _ ?_; clear hK K; refine AWp_seq_k (fun K hK => ?_); apply s_region; apply s_q; decide; rfl; (simp only [go_sem, g1]; rfl); apply s_nil; simp only [AThen, ABlock]; refine hK _ _ ?_; clear hK K)
  rw [Lv.user] at h
  refine cond_split (by simp only [go_sem]; try rfl) (fun hc => ?_) (fun hc => ?_)
  · rw [if_pos hc] at h
    (refine AWp_seq_k (fun K hK => ?_); apply s_region; (iterate 2 (apply s_q; decide; rfl; (simp only [go_sem, g1]; rfl))); apply s_nil; simp only [AThen, ABlock]; refine hK _ _ ?_; clear hK K; apply AWp_ret; simp only [AThen, ABlock]; apply end_ret; rfl; simp only [AFr.get, reduceIte, Nat.reduceEqDiff])
    exact ⟨H, hE, h⟩
  · rw [if_neg (by simpa using hc)] at h
    (apply AWp_skip; simp only [AThen, ABlock]; refine hK _ _ ?_; clear hK K; refine AWp_seq_k (fun K hK => ?_); apply s_region; (iterate 3 (apply s_q; decide; rfl; (simp only [go_sem, g1]; rfl))); apply s_nil; simp only [AThen, ABlock]; refine hK _ _ ?_; clear hK K; apply AWp_ret)
    exact ⟨H, hE, h⟩
def levelB (j : J) : Bool := if (if decide (j.kind = 2) = true then decide (-1073741824 ≤ j.int) else false) = true then decide (j.int ≤ 1073741824) else false
theorem level_c (j : J) (H : AHeap) (Kc : AV → AHeap → Prop) (h : Kc (.tup [.v (.int .i64 j.int), .v (.bool (levelB j))]) H) : ACall X 133 [.agg j.cells] H Kc := by
  refine ACall.drop ?_
  rw [J.cells_eq]
  refine ACall_intro Tryz.func133 rfl (by kernel_rfl) (by rw [Tryz.ntmps133]; simp) ?_; rw [Tryz.ntmps133]; simp only [frame0, Nat.reduceAdd]
  refine AWp_seq_k (fun K hK => ?_); apply s_region
  apply s_box; decide; exact (by simp only [go_sem]; try rfl); exact (by simp only [go_sem]; try rfl); intro q hq
  have g1 := AHeap.get_put_same q (.box 25 [.v (.int .i64 j.kind), .v (.int .i64 j.int), .s j.text, .sl false (j.keys.map strCells), .sl false (j.list.map J.cells)]) H
  have hE := Ext.fresh hq (o := .box 25 [.v (.int .i64 j.kind), .v (.int .i64 j.int), .s j.text, .sl false (j.keys.map strCells), .sl false (j.list.map J.cells)])
  generalize H.put q (.box 25 [.v (.int .i64 j.kind), .v (.int .i64 j.int), .s j.text, .sl false (j.keys.map strCells), .sl false (j.list.map J.cells)]) = M at g1 hE ⊢
  ((iterate 2 (apply s_q; decide; rfl; (simp only [go_sem]; rfl))); apply s_nil; simp only [AThen, ABlock]; refine hK _ _ ?_; clear hK K; refine AWp_seq_k (fun K hK => ?_))
  apply AWp_drawA [0, 1, 2, 3, 4, 5, 6, 7, 8, 9, 10, 11, 12, 13, 14, 15, 16] [] 0 (by exact mixed); kernel_rfl; (simp only [go_sem]; rfl); (simp only [go_sem]; rfl)
  ((iterate 6 (apply e_q; decide; (simp only [go_sem, g1]; rfl))); apply e_spec; decide; (simp only [go_sem, g1]; rfl); (simp only [go_sem, g1]; rfl); (simp only [go_sem, g1]; rfl); (simp only [go_sem, g1]; rfl); trivial; (iterate 2 (apply e_spec; decide; (simp only [go_sem, g1]; rfl); (simp only [go_sem, g1]; rfl); (simp only [go_sem, g1]; rfl); (simp only [go_sem, g1]; rfl); simp [condsOk])); apply e_pick; decide; (simp only [go_sem, g1]; rfl); (simp only [go_sem, g1]; rfl); (simp only [go_sem, g1]; rfl); (simp only [go_sem, g1]; rfl); (simp only [go_sem, g1]; rfl); (simp only [go_sem, g1]; rfl); trivial; simp [condsOk]; trivial; apply e_q; decide; (simp only [go_sem, g1]; rfl); apply e_spec; decide; (simp only [go_sem, g1]; rfl); (simp only [go_sem, g1]; rfl); (simp only [go_sem, g1]; rfl); (simp only [go_sem, g1]; rfl); trivial; (iterate 2 (apply e_spec; decide; (simp only [go_sem, g1]; rfl); (simp only [go_sem, g1]; rfl); (simp only [go_sem, g1]; rfl); (simp only [go_sem, g1]; rfl); simp [condsOk])); apply e_pick; decide; (simp only [go_sem, g1]; rfl); (simp only [go_sem, g1]; rfl); (simp only [go_sem, g1]; rfl); (simp only [go_sem, g1]; rfl); (simp only [go_sem, g1]; rfl); (simp only [go_sem, g1]; rfl); trivial; simp [condsOk]; trivial; (iterate 2 (apply e_q; decide; (simp only [go_sem, g1]; rfl))); apply e_nil; apply t_nil; simp only [AThen, ABlock]; refine hK _ _ ?_; clear hK K; apply AWp_ret)
  refine end_ret (av := .tup [.v (.int .i64 j.int), .v (.bool (levelB j))]) ?_ ⟨H, hE, h⟩
  show resAV X.P _ _ [.tmp 2, .tmp 3] = _
  simp only [go_sem, levelB]; try rfl
end Go.Proofs.YtcpfgjfiacfmoaaGreatDoor

set_option linter.unusedSimpArgs false
set_option linter.unusedVariables false
set_option maxRecDepth 100000
namespace Go.Proofs.YtcpfgjfiacfmoaaGreatDoor
open Go Go.AL
attribute [local irreducible] AOps AWp SOps AE AT ACall AApp

theorem put_self {H : AHeap} {q : Nat} {o : AObj} (h : H.get q = some o) : H.put q o = H := by
  funext c
  show (H.put q o).get c = H.get c
  rw [AHeap.get_put]; split
  · rename_i e; subst e; exact h.symm
  · rfl
theorem ext_put2 {H : AHeap} {q b : Nat} {o x y : AObj} (hq : H.get q = some o) (hb : H.get b = none) : Ext (H.put q x) ((H.put b y).put q x) := fun c z hc => by
  rw [AHeap.get_put] at hc ⊢
  split
  · rename_i e; rw [if_pos e] at hc; exact hc
  · rename_i e
    rw [if_neg e] at hc
    rw [AHeap.get_put, if_neg (by rintro rfl; rw [hb] at hc; cases hc)]; exact hc
def numR (o : Option J) (n : Int) : Int := match o with | none => n | some j => j.int
def numB (o : Option J) (bad : Bool) : Bool := match o with | none => bad | some j => if bad = true then true else !levelB j
abbrev cbox (m : Nat) (bad : Bool) : AObj := .box 117 [.v (.map (some m)), .v (.bool bad)]
set_option maxHeartbeats 1000000 in
theorem number_c (q m : Nat) (bad : Bool) (es : List (List UInt8 × AV)) (key : List UInt8) (o : Option J) (hk : kfind key es = o.map fun x => AV.agg x.cells) (n : Int) (H : AHeap) (hq : H.get q = some (cbox m bad)) (hm : H.get m = some (.smap es)) (Kc : AV → AHeap → Prop)
    (h : Kc (.v (.int .i64 (numR o n))) (H.put q (cbox m (numB o bad)))) : ACall X 100 [ptrTo q, .s key, .v (.int .i64 n)] H Kc := by
  refine ACall.drop ?_
  refine ACall_intro Tryz.func100 rfl (by kernel_rfl) (by rw [Tryz.ntmps100]; simp) ?_; rw [Tryz.ntmps100]; simp only [frame0, Nat.reduceAdd]
  cases o with
  | none =>
    have hk : kfind key es = none := hk
    have h : Kc (.v (.int .i64 n)) (H.put q (cbox m bad)) := h
    rw [put_self hq] at h
    (refine AWp_seq_k (fun K hK => ?_); apply s_region; apply s_q; decide; rfl; (simp only [go_sem, hq, hm, hk]; rfl); apply s_nil; simp only [AThen, ABlock]; refine hK _ _ ?_; clear hK K; refine AWp_seq_k (fun K hK => ?_); apply s_region; (iterate 9 (apply s_q; decide; rfl; (simp only [go_sem, hq, hm, hk]; rfl))); apply s_alloc; decide; exact zc_25; intro b hb; apply s_store; (simp only [go_sem, hq, hm, hk]; rfl); (simp only [go_sem, hq, hm, hk]; rfl); (simp only [go_sem, hq, hm, hk]; rfl); apply s_q; decide; rfl; (simp only [go_sem, hq, hm, hk]; rfl); apply s_nil; simp only [AThen, ABlock]; refine hK _ _ ?_; clear hK K; (iterate 2 (refine AWp_seq_k (fun K hK => ?_))); apply s_region; (iterate 2 (apply s_q; decide; rfl; (simp only [go_sem, hq, hm, hk]; rfl))); apply s_nil; simp only [AThen, ABlock]; refine hK _ _ ?_; clear hK K)
    refine cond_split (by simp only [go_sem]; try rfl) (fun hc => ?_) (fun hc => ?_)
    rotate_left
    · cases hc
    (refine AWp_seq_k (fun K hK => ?_); apply s_region; (iterate 2 (apply s_q; decide; rfl; (simp only [go_sem]; rfl))); apply s_nil; simp only [AThen, ABlock]; refine hK _ _ ?_; clear hK K; apply AWp_ret; simp only [AThen, ABlock]; apply end_ret; rfl; simp only [AFr.get, reduceIte, Nat.reduceEqDiff])
    exact ⟨H, Ext.fresh hb, h⟩
  | some j =>
    have hk : kfind key es = some (.agg [.v (.int .i64 j.kind), .v (.int .i64 j.int), .s j.text, .sl false (j.keys.map strCells), .sl false (j.list.map J.cells)]) := by rw [hk, ← J.cells_eq]; rfl
    have h : Kc (.v (.int .i64 j.int)) (H.put q (cbox m (if bad = true then true else !levelB j))) := h
    (refine AWp_seq_k (fun K hK => ?_); apply s_region; apply s_q; decide; rfl; (simp only [go_sem, hq, hm, hk]; rfl); apply s_nil; simp only [AThen, ABlock]; refine hK _ _ ?_; clear hK K; refine AWp_seq_k (fun K hK => ?_); apply s_region; (iterate 9 (apply s_q; decide; rfl; (simp only [go_sem, hq, hm, hk]; rfl))); apply s_alloc; decide; exact zc_25; intro b hb; apply s_store; (simp only [go_sem, hq, hm, hk]; rfl); (simp only [go_sem, hq, hm, hk]; rfl); (simp only [go_sem, hq, hm, hk]; rfl); apply s_q; decide; rfl; (simp only [go_sem, hq, hm, hk]; rfl); apply s_nil; simp only [AThen, ABlock]; refine hK _ _ ?_; clear hK K; (iterate 2 (refine AWp_seq_k (fun K hK => ?_))); apply s_region; (iterate 2 (apply s_q; decide; rfl; (simp only [go_sem, hq, hm, hk]; rfl))); apply s_nil; simp only [AThen, ABlock]; refine hK _ _ ?_; clear hK K)
    refine cond_split (by simp only [go_sem]; try rfl) (fun hc => ?_) (fun hc => ?_)
    · cases hc
    have g1 := get_fresh hq hb (x := (.box 25 [.v (.int .i64 j.kind), .v (.int .i64 j.int), .s j.text, .sl false (j.keys.map strCells), .sl false (j.list.map J.cells)]))
    have g2 := AHeap.get_put_same b (.box 25 [.v (.int .i64 j.kind), .v (.int .i64 j.int), .s j.text, .sl false (j.keys.map strCells), .sl false (j.list.map J.cells)]) H
    (apply AWp_skip; simp only [AThen, ABlock]; refine hK _ _ ?_; clear hK K; refine AWp_seq_k (fun K hK => ?_); apply s_region; apply s_q; decide; rfl; (simp only [go_sem, g1, g2]; rfl); apply s_call; decide; (simp only [go_sem, g1, g2]; rfl); (simp only [go_sem, g1, g2]; rfl); refine ACall.args_eq (bs := [.agg j.cells]) ?_ ?_; (focus (rw [J.cells_eq j]; done)); apply level_c j; (iterate 5 (apply s_q; decide; rfl; (simp only [go_sem, g1, g2]; rfl))); apply s_nil; simp only [AThen, ABlock]; refine hK _ _ ?_; clear hK K; refine AWp_seq_k (fun K hK => ?_); apply s_region; (iterate 6 (apply s_q; decide; rfl; (simp only [go_sem, g1, g2]; rfl))); apply s_spec; decide; rfl; rfl; (simp only [go_sem, g1, g2]; rfl); (simp only [go_sem, g1, g2]; rfl); (simp only [go_sem, g1, g2]; rfl); (simp only [go_sem, g1, g2]; rfl); trivial; apply s_spec; decide; rfl; rfl; (simp only [go_sem, g1, g2]; rfl); (simp only [go_sem, g1, g2]; rfl); (simp only [go_sem, g1, g2]; rfl); (simp only [go_sem, g1, g2]; rfl); simp [condsOk]; apply s_pick; decide; (simp only [go_sem, g1, g2]; rfl); (simp only [go_sem, g1, g2]; rfl); (simp only [go_sem, g1, g2]; rfl); (simp only [go_sem, g1, g2]; rfl); (simp only [go_sem, g1, g2]; rfl); (simp only [go_sem, g1, g2]; rfl); trivial; trivial; simp [condsOk]; (iterate 2 (apply s_q; decide; rfl; (simp only [go_sem, g1, g2]; rfl))); apply s_store; (simp only [go_sem, g1, g2]; rfl); (simp only [go_sem, g1, g2]; rfl); (simp only [go_sem, g1, g2]; rfl); apply s_nil; simp only [AThen, ABlock]; refine hK _ _ ?_; clear hK K; refine AWp_seq_k (fun K hK => ?_); apply s_region; (iterate 2 (apply s_q; decide; rfl; (simp only [go_sem, g1, g2]; rfl))); apply s_nil; simp only [AThen, ABlock]; refine hK _ _ ?_; clear hK K; apply AWp_ret)
    exact ⟨H.put q _, ext_put2 hq hb, h⟩
theorem ext_reput {H L : AHeap} {q : Nat} {x y : AObj} (h : Ext (H.put q x) L) : Ext (H.put q y) (L.put q y) := fun c z hc => by
  rw [AHeap.get_put] at hc ⊢
  split
  · rename_i e; rw [if_pos e] at hc; exact hc
  · rename_i e; rw [if_neg e] at hc
    exact h c z (by rw [AHeap.get_put, if_neg e]; exact hc)
theorem rowAt_rebase {e sz q : Nat} {H L : AHeap} {es : List (List AV)} {a : AV} {x y : AObj} (h : RowAt e sz (H.put q x) L es a) : RowAt e sz (H.put q y) L es a := by
  rcases h with h | ⟨b, h1, h2, h3⟩
  · exact .inl h
  · refine .inr ⟨b, ?_, h2, h3⟩
    rw [AHeap.get_put] at h1 ⊢
    split at h1
    · cases h1
    · rename_i e; rw [if_neg e]; exact h1
theorem snap_at {e sz : Nat} {K0 L : AHeap} {es : List (List AV)} {a : AV} (h : RowAt e sz K0 L es a) (hE : Ext K0 L) : Snap X [a] L [.sl false es] K0 := by
  rcases h with ⟨rfl, rfl⟩ | ⟨b, h1, rfl, h3⟩
  · exact Snap.trans Snap.loosen (Snap.drop hE)
  · have h5 : Snap X [.row b sz es.length] L (AV.snaps b sz es [.row b sz es.length]) (L.put b (.row e sz true es)) := Snap.row h3
    simp only [AV.snaps, AV.snap] at h5
    rw [if_pos trivial, if_pos ⟨trivial, Nat.le_refl _⟩, List.take_length] at h5
    exact h5.trans (Snap.drop (Ext.over hE h1))
def namesL (l : List (List UInt8 × J)) : List Nm := l.map fun x => (x.1, x.2.int)
def namesB (p : List UInt8 → Bool) (bad : Bool) (l : List (List UInt8 × J)) : Bool := l.foldl (fun b x => if (if b = true then true else !levelB x.2) = true then true else !p x.1) bad
def namesR (o : Option J) : List Nm := match o with | none => [] | some j => namesL (j.keys.zip j.list)
def namesBad (p : List UInt8 → Bool) (o : Option J) (bad : Bool) : Bool := match o with | none => bad | some j => namesB p (if bad = true then true else !decide (j.kind = 5)) (j.keys.zip j.list)
set_option maxHeartbeats 2000000 in
theorem names_c (q m : Nat) (bad : Bool) (es : List (List UInt8 × AV)) (key : List UInt8) (o : Option J) (hk : kfind key es = o.map fun x => AV.agg x.cells) (g : FuncId) (pr : List UInt8 → Bool) (hg : ∀ (l : List UInt8), l.length < 4294967281 → ∀ (H : AHeap) (K : AV → AHeap → Prop), K (.v (.bool (pr l))) H → ACall X g [.s l] H K)
    (ho : ∀ j, o = some j → (j.keys.length ≤ 1000000000 ∧ j.keys.length ≤ j.list.length) ∧ ∀ k ∈ j.keys, k.length < 4294967281) (H : AHeap) (hq : H.get q = some (cbox m bad)) (hm : H.get m = some (.smap es)) (Kc : AV → AHeap → Prop)
    (h : Kc (.sl false ((namesR o).map nmCells)) (H.put q (cbox m (namesBad pr o bad)))) : ACall X 101 [ptrTo q, .s key, .fn (.func g) [] []] H Kc := by
  refine ACall.post ?_
  refine ACall_intro Tryz.func101 rfl (by kernel_rfl) (by rw [Tryz.ntmps101]; simp) ?_; rw [Tryz.ntmps101]; simp only [frame0, Nat.reduceAdd]
  cases o with
  | none =>
    have hk : kfind key es = none := hk
    have h : Kc (.sl false []) (H.put q (cbox m bad)) := h
    rw [put_self hq] at h
    (refine AWp_seq_k (fun K hK => ?_); apply s_region; apply s_q; decide; rfl; (simp only [go_sem, hq, hm, hk]; rfl); apply s_nil; simp only [AThen, ABlock]; refine hK _ _ ?_; clear hK K; refine AWp_seq_k (fun K hK => ?_); apply s_region; (iterate 9 (apply s_q; decide; rfl; (simp only [go_sem, hq, hm, hk]; rfl))); apply s_alloc; decide; exact zc_25; intro b hb; apply s_store; (simp only [go_sem, hq, hm, hk]; rfl); (simp only [go_sem, hq, hm, hk]; rfl); (simp only [go_sem, hq, hm, hk]; rfl); apply s_q; decide; rfl; (simp only [go_sem, hq, hm, hk]; rfl); apply s_nil; simp only [AThen, ABlock]; refine hK _ _ ?_; clear hK K; (iterate 2 (refine AWp_seq_k (fun K hK => ?_))); apply s_region; (iterate 2 (apply s_q; decide; rfl; (simp only [go_sem, hq, hm, hk]; rfl))); apply s_nil; simp only [AThen, ABlock]; refine hK _ _ ?_; clear hK K)
    refine cond_split (by simp only [go_sem]; try rfl) (fun hc => ?_) (fun hc => ?_)
    rotate_left
    · cases hc
    (refine AWp_seq_k (fun K hK => ?_); apply s_region; apply s_q; decide; rfl; (simp only [go_sem]; rfl); apply s_nil; simp only [AThen, ABlock]; refine hK _ _ ?_; clear hK K; apply AWp_ret; simp only [AThen, ABlock]; apply end_ret; rfl; simp only [AFr.get, reduceIte, Nat.reduceEqDiff])
    exact ⟨_, _, Snap.trans Snap.loosen (Snap.drop (Ext.fresh hb)), h⟩
  | some j =>
    obtain ⟨⟨f1, f2⟩, f3⟩ := ho j rfl
    have hk : kfind key es = some (.agg [.v (.int .i64 j.kind), .v (.int .i64 j.int), .s j.text, .sl false (j.keys.map strCells), .sl false (j.list.map J.cells)]) := by rw [hk, ← J.cells_eq]; rfl
    have h : Kc (.sl false ((namesL (j.keys.zip j.list)).map nmCells)) (H.put q (cbox m (namesB pr (if bad = true then true else !decide (j.kind = 5)) (j.keys.zip j.list)))) := h
    obtain ⟨b0, hb0⟩ : ∃ b0, b0 = (if bad = true then true else !decide (j.kind = 5)) := ⟨_, rfl⟩
    rw [← hb0] at h
    (refine AWp_seq_k (fun K hK => ?_); apply s_region; apply s_q; decide; rfl; (simp only [go_sem, hq, hm, hk]; rfl); apply s_nil; simp only [AThen, ABlock]; refine hK _ _ ?_; clear hK K; refine AWp_seq_k (fun K hK => ?_); apply s_region; (iterate 9 (apply s_q; decide; rfl; (simp only [go_sem, hq, hm, hk]; rfl))); apply s_alloc; decide; exact zc_25; intro b hb; apply s_store; (simp only [go_sem, hq, hm, hk]; rfl); (simp only [go_sem, hq, hm, hk]; rfl); (simp only [go_sem, hq, hm, hk]; rfl); apply s_q; decide; rfl; (simp only [go_sem, hq, hm, hk]; rfl); apply s_nil; simp only [AThen, ABlock]; refine hK _ _ ?_; clear hK K; (iterate 2 (refine AWp_seq_k (fun K hK => ?_))); apply s_region; (iterate 2 (apply s_q; decide; rfl; (simp only [go_sem, hq, hm, hk]; rfl))); apply s_nil; simp only [AThen, ABlock]; refine hK _ _ ?_; clear hK K)
    refine cond_split (by simp only [go_sem]; try rfl) (fun hc => ?_) (fun hc => ?_)
    · cases hc
    obtain ⟨p, hpb⟩ : ∃ p, p = b := ⟨_, rfl⟩
    have hp := hb
    rw [← hpb] at hp ⊢
    clear hb hpb b
    have g1 := get_fresh hq hp (x := (.box 25 [.v (.int .i64 j.kind), .v (.int .i64 j.int), .s j.text, .sl false (j.keys.map strCells), .sl false (j.list.map J.cells)]))
    have g2 := AHeap.get_put_same p (.box 25 [.v (.int .i64 j.kind), .v (.int .i64 j.int), .s j.text, .sl false (j.keys.map strCells), .sl false (j.list.map J.cells)]) H
    have hpq := get_ne_fresh hq hp
    have hE1 : Ext (H.put q (cbox m b0)) ((H.put p (.box 25 [.v (.int .i64 j.kind), .v (.int .i64 j.int), .s j.text, .sl false (j.keys.map strCells), .sl false (j.list.map J.cells)])).put q (cbox m b0)) := ext_put2 hq hp
    have g3 : ((H.put p (.box 25 [.v (.int .i64 j.kind), .v (.int .i64 j.int), .s j.text, .sl false (j.keys.map strCells), .sl false (j.list.map J.cells)])).put q (cbox m b0)).get p = _ := get_other g2 hpq.symm
    have g4 := AHeap.get_put_same q (cbox m b0) (H.put p (.box 25 [.v (.int .i64 j.kind), .v (.int .i64 j.int), .s j.text, .sl false (j.keys.map strCells), .sl false (j.list.map J.cells)]))
    generalize H.put p (.box 25 [.v (.int .i64 j.kind), .v (.int .i64 j.int), .s j.text, .sl false (j.keys.map strCells), .sl false (j.list.map J.cells)]) = M0 at g1 g2 g3 g4 hE1 ⊢
    (apply AWp_skip; simp only [AThen, ABlock]; refine hK _ _ ?_; clear hK K; refine AWp_seq_k (fun K hK => ?_); apply s_region; (iterate 6 (apply s_q; decide; rfl; (simp only [go_sem, g1, g2]; rfl))); apply s_spec; decide; rfl; rfl; (simp only [go_sem, g1, g2]; rfl); (simp only [go_sem, g1, g2]; rfl); (simp only [go_sem, g1, g2]; rfl); (simp only [go_sem, g1, g2]; rfl); trivial; (iterate 2 (apply s_spec; decide; rfl; rfl; (simp only [go_sem, g1, g2]; rfl); (simp only [go_sem, g1, g2]; rfl); (simp only [go_sem, g1, g2]; rfl); (simp only [go_sem, g1, g2]; rfl); simp [condsOk])); apply s_pick; decide; (simp only [go_sem, g1, g2]; rfl); (simp only [go_sem, g1, g2]; rfl); (simp only [go_sem, g1, g2]; rfl); (simp only [go_sem, g1, g2]; rfl); (simp only [go_sem, g1, g2]; rfl); (simp only [go_sem, g1, g2]; rfl); trivial; trivial; simp [condsOk]; (iterate 2 (apply s_q; decide; rfl; (simp only [go_sem, g1, g2]; rfl))); apply s_store; (simp only [go_sem, g1, g2]; rfl); (simp only [go_sem, g1, g2]; rfl); (simp only [go_sem, g1, g2]; rfl); apply s_nil; simp only [AThen, ABlock]; refine hK _ _ ?_; clear hK K; refine AWp_seq_k (fun K hK => ?_); apply s_region; apply s_q; decide; rfl; (simp only [go_sem, g1, g2]; rfl); apply s_nil; simp only [AThen, ABlock]; refine hK _ _ ?_; clear hK K; (iterate 2 (refine AWp_seq_k (fun K hK => ?_))); apply s_region; apply s_q; decide; rfl; (simp only [go_sem, g1, g2]; rfl))
    rw [← hb0]
    generalize M0.put q (cbox m b0) = M1 at g3 g4 hE1 ⊢
    clear g1 g2
    ((iterate 3 (apply s_q; decide; rfl; (simp only [go_sem, g3]; rfl))); apply s_nil; simp only [AThen, ABlock]; refine hK _ _ ?_; clear hK K; apply AWp_block)
    refine AWp_loop_s (σ := Nat × AV × AHeap) [0, 2, 7, 9, 38, 39, 40] (fun s => [ptrTo q, .fn (.func g) [] [], ptrTo p, s.2.1, .sl false (j.keys.map strCells), .v (.int .i64 (j.keys.length : Nat)), .v (.int .i64 s.1)]) (fun s => s.2.2) (fun s => j.keys.length - s.1)
      (fun s => s.1 ≤ j.keys.length ∧ s.2.2.get q = some (cbox m (namesB pr b0 ((j.keys.zip j.list).take s.1))) ∧ s.2.2.get p = some (.box 25 [.v (.int .i64 j.kind), .v (.int .i64 j.int), .s j.text, .sl false (j.keys.map strCells), .sl false (j.list.map J.cells)]) ∧ Ext (H.put q (cbox m (namesB pr b0 ((j.keys.zip j.list).take s.1)))) s.2.2 ∧
        RowAt 98 2 (H.put q (cbox m (namesB pr b0 ((j.keys.zip j.list).take s.1)))) s.2.2 ((namesL ((j.keys.zip j.list).take s.1)).map nmCells) s.2.1)
      (0, .sl true [], M1) ⟨Nat.zero_le _, g4, g3, hE1, RowAt.nil _ _ _ _⟩ (by simp only [getAll, List.map_cons, List.map_nil, AFr.get, reduceIte, Nat.reduceEqDiff, List.length_map]; rfl) rfl (fun s hs => ?_)
    obtain ⟨n, a, L⟩ := s
    obtain ⟨hn, hqL, hpL, hE, hR⟩ := hs
    simp only [List.zip_cons_cons, List.zip_nil_right] at hn hqL hpL hE hR ⊢
    clear g3 g4 hE1
    (refine AWp_seq_k (fun K hK => ?_); apply s_region; apply s_q; decide; rfl; (simp only [go_sem]; rfl); apply s_nil; simp only [AThen, ABlock]; refine hK _ _ ?_; clear hK K; refine AWp_seq_k (fun K hK => ?_))
    refine cond_split (by simp only [go_sem]; try rfl) (fun hd => ?_) (fun hd => ?_)
    · have hlt : n < j.keys.length := by simpa using hd
      obtain ⟨ky, hky⟩ := gete hlt
      have hgk := jstr_at hky
      obtain ⟨x, hx⟩ := gete (l := j.list) (i := n) (by omega)
      have hgx := jget_at hx
      have hz : (j.keys.zip j.list)[n]? = some (ky, x) := by rw [List.getElem?_zip_eq_some]; exact ⟨hky, hx⟩
      have ht : (j.keys.zip j.list).take (n + 1) = (j.keys.zip j.list).take n ++ [(ky, x)] := take_succ hz
      obtain ⟨l, hl⟩ : ∃ l, l = (j.keys.zip j.list).take n := ⟨_, rfl⟩
      rw [← hl] at hqL hE hR ht
      obtain ⟨bb, hbb⟩ : ∃ bb, bb = namesB pr b0 l := ⟨_, rfl⟩
      rw [← hbb] at hqL hE hR
      have hll : l.length ≤ 1000000000 := by rw [hl, List.length_take, List.length_zip]; omega
      have hfk := f3 ky (List.mem_of_getElem? hky)
      have e1 : namesL (l ++ [(ky, x)]) = namesL l ++ [(ky, x.int)] := by rw [namesL, List.map_append]; rfl
      have e2 : namesB pr b0 (l ++ [(ky, x)]) = if (if bb = true then true else !levelB x) = true then true else !pr ky := by rw [namesB, List.foldl_append, hbb, namesB]; rfl
      (apply AWp_skip; simp only [AThen, ABlock]; refine hK _ _ ?_; clear hK K; refine AWp_seq_k (fun K hK => ?_); apply AWp_block; refine AWp_seq_k (fun K hK => ?_); apply s_region; (iterate 5 (apply s_q; decide; rfl; (simp only [go_sem, hqL, hpL, hgk, hgx]; rfl))); apply s_nil; simp only [AThen, ABlock]; refine hK _ _ ?_; clear hK K; refine AWp_seq_k (fun K hK => ?_); apply s_region; (iterate 5 (apply s_q; decide; rfl; (simp only [go_sem, hqL, hpL, hgk, hgx]; rfl))); apply s_call; decide; (simp only [go_sem, hqL, hpL, hgk, hgx]; rfl); (simp only [go_sem, hqL, hpL, hgk, hgx]; rfl); refine ACall.args_eq (bs := [.agg x.cells]) ?_ ?_; (focus (rw [J.cells_eq x]; done)); apply level_c x; (iterate 5 (apply s_q; decide; rfl; (simp only [go_sem, hqL, hpL, hgk, hgx]; rfl))); apply s_nil; simp only [AThen, ABlock]; refine hK _ _ ?_; clear hK K; refine AWp_seq_k (fun K hK => ?_); apply s_region; (iterate 6 (apply s_q; decide; rfl; (simp only [go_sem, hqL, hpL, hgk, hgx]; rfl))); apply s_spec; decide; rfl; rfl; (simp only [go_sem, hqL, hpL, hgk, hgx]; rfl); (simp only [go_sem, hqL, hpL, hgk, hgx]; rfl); (simp only [go_sem, hqL, hpL, hgk, hgx]; rfl); (simp only [go_sem, hqL, hpL, hgk, hgx]; rfl); trivial; apply s_spec; decide; rfl; rfl; (simp only [go_sem, hqL, hpL, hgk, hgx]; rfl); (simp only [go_sem, hqL, hpL, hgk, hgx]; rfl); (simp only [go_sem, hqL, hpL, hgk, hgx]; rfl); (simp only [go_sem, hqL, hpL, hgk, hgx]; rfl); simp [condsOk]; apply s_pick; decide; (simp only [go_sem, hqL, hpL, hgk, hgx]; rfl); (simp only [go_sem, hqL, hpL, hgk, hgx]; rfl); (simp only [go_sem, hqL, hpL, hgk, hgx]; rfl); (simp only [go_sem, hqL, hpL, hgk, hgx]; rfl); (simp only [go_sem, hqL, hpL, hgk, hgx]; rfl); (simp only [go_sem, hqL, hpL, hgk, hgx]; rfl); trivial; trivial; simp [condsOk]; apply s_q; decide; rfl; (simp only [go_sem, hqL, hpL, hgk, hgx]; rfl); (iterate 2 (apply s_spec; decide; rfl; rfl; (simp only [go_sem, hqL, hpL, hgk, hgx]; rfl); (simp only [go_sem, hqL, hpL, hgk, hgx]; rfl); (simp only [go_sem, hqL, hpL, hgk, hgx]; rfl); (simp only [go_sem, hqL, hpL, hgk, hgx]; rfl); trivial)); apply s_gpure; decide; (simp only [go_sem, hqL, hpL, hgk, hgx]; rfl); (simp only [go_sem, hqL, hpL, hgk, hgx]; rfl); (simp only [go_sem, hqL, hpL, hgk, hgx]; rfl); simp [condsOk]; (simp only [go_sem, hqL, hpL, hgk, hgx]; rfl); (simp only [go_sem, hqL, hpL, hgk, hgx]; rfl); (apply hg ky hfk; exact ⟨rfl, rfl⟩); apply s_spec; decide; rfl; rfl; (simp only [go_sem, hqL, hpL, hgk, hgx]; rfl); (simp only [go_sem, hqL, hpL, hgk, hgx]; rfl); (simp only [go_sem, hqL, hpL, hgk, hgx]; rfl); (simp only [go_sem, hqL, hpL, hgk, hgx]; rfl); simp [condsOk]; apply s_pick; decide; (simp only [go_sem, hqL, hpL, hgk, hgx]; rfl); (simp only [go_sem, hqL, hpL, hgk, hgx]; rfl); (simp only [go_sem, hqL, hpL, hgk, hgx]; rfl); (simp only [go_sem, hqL, hpL, hgk, hgx]; rfl); (simp only [go_sem, hqL, hpL, hgk, hgx]; rfl); (simp only [go_sem, hqL, hpL, hgk, hgx]; rfl); trivial; trivial; simp [condsOk]; (iterate 2 (apply s_q; decide; rfl; (simp only [go_sem, hqL, hpL, hgk, hgx]; rfl))); apply s_store; (simp only [go_sem, hqL, hpL, hgk, hgx]; rfl); (simp only [go_sem, hqL, hpL, hgk, hgx]; rfl); (simp only [go_sem, hqL, hpL, hgk, hgx]; rfl); apply s_nil; simp only [AThen, ABlock]; refine hK _ _ ?_; clear hK K; apply s_region; (iterate 4 (apply s_q; decide; rfl; (simp only [go_sem, hqL, hpL, hgk, hgx]; rfl))); apply s_lit; decide; exact el_56; (simp only [go_sem, hqL, hpL, hgk, hgx]; rfl); (simp only [go_sem, hqL, hpL, hgk, hgx]; rfl); decide)
      rw [← e2]
      obtain ⟨b1, hb1⟩ : ∃ b1, b1 = namesB pr b0 (l ++ [(ky, x)]) := ⟨_, rfl⟩
      rw [← hb1]
      have hR2 := rowAt_rebase (y := cbox m b1) (hR.put (o' := cbox m b1) hqL (fun _ _ _ h => by cases h))
      have hE2 := ext_reput (y := cbox m b1) hE
      have q2 := AHeap.get_put_same q (cbox m b1) L
      have p2 := get_other (x := cbox m b1) hpL hpq.symm
      generalize L.put q (cbox m b1) = L2 at hR2 hE2 q2 p2 ⊢
      have hnl : (namesL l).length = l.length := by rw [namesL, List.length_map]
      (apply s_append; decide; (simp only [go_sem]; rfl); (simp only [go_sem]; rfl); apply AApp_at el_56 hE2 hR2 (l := namesL l) (m := [(ky, x.int)]) rfl rfl tk_56 nm_one (by rw [hnl]; simp; omega) (by rw [hnl]; simp; omega); intro s1 L1 ra rb rc; apply s_q; decide; rfl; (simp only [go_sem]; rfl); apply s_nil; simp only [AThen, ABlock]; refine hK _ _ ?_; clear hK K; apply s_region; (iterate 2 (apply s_q; decide; rfl; (simp only [go_sem]; rfl))); apply s_nil; simp only [AThen, ABlock])
      refine ⟨(n + 1, s1, L1), by simp only; omega, ⟨by simp only; omega, ?_, rc p _ p2 (fun _ _ _ h => by cases h), ?_, ?_⟩, ?_, by trivial⟩
      · simp only [ht, ← hb1]; exact rc q _ q2 (fun _ _ _ h => by cases h)
      · simp only [ht, ← hb1]; exact rb
      · simp only [ht, ← hb1, e1]; exact ra
      · simp only [getAll, List.map_cons, List.map_nil, AFr.get, reduceIte, Nat.reduceEqDiff]
        rw [wrapS hlt (by omega)]; try rfl
    · have hge : j.keys.length ≤ n := by simpa using hd
      have htk : (j.keys.zip j.list).take n = j.keys.zip j.list := List.take_of_length_le (by rw [List.length_zip]; omega)
      rw [htk] at hqL hE hR
      (apply AWp_exit; simp only [AThen, ABlock, reduceIte, Nat.reduceEqDiff]; clear hK K; refine hK _ _ ?_; clear hK K; refine AWp_seq_k (fun K hK => ?_); apply s_region; (iterate 2 (apply s_q; decide; rfl; (simp only [go_sem]; rfl))); apply s_nil; simp only [AThen, ABlock]; refine hK _ _ ?_; clear hK K; apply AWp_ret)
      exact ⟨_, _, snap_at hR hE, h⟩
end Go.Proofs.YtcpfgjfiacfmoaaGreatDoor

set_option linter.unusedSimpArgs false
set_option linter.unusedVariables false
set_option maxRecDepth 100000
namespace Go.Proofs.YtcpfgjfiacfmoaaGreatDoor
open Go Go.AL
attribute [local irreducible] AOps AWp SOps AE AT ACall AApp

def isUserB (l : List UInt8) : Bool := match idCut [64] l with | some _ => true | none => false
theorem puserB_c (l : List UInt8) (hl : l.length < 4294967281) (H : AHeap) (K : AV → AHeap → Prop) (h : K (.v (.bool (isUserB l))) H) : ACall X 102 [.s l] H K := by
  obtain ⟨a, b, c, e, e2⟩ : ∃ a b c, idParts [64] l = .tup [.s a, .s b, .v (.bool c)] ∧ isUserB l = c := by
    rw [idParts, isUserB]
    cases idCut [64] l with
    | none => exact ⟨_, _, _, rfl, rfl⟩
    | some p => exact ⟨_, _, _, rfl, rfl⟩
  rw [e2] at h
  refine ACall_intro Tryz.func102 rfl (by kernel_rfl) (by rw [Tryz.ntmps102]; simp) ?_; rw [Tryz.ntmps102]; simp only [frame0, Nat.reduceAdd]
  (refine AWp_seq_k (fun K hK => ?_); apply s_region; apply s_q; decide; rfl; (simp only [go_sem]; rfl); apply s_nil; simp only [AThen, ABlock]; refine hK _ _ ?_; clear hK K; refine AWp_seq_k (fun K hK => ?_); apply s_region; apply s_q; decide; rfl; (simp only [go_sem]; rfl); apply s_call; decide; (simp only [go_sem]; rfl); (simp only [go_sem]; rfl); apply user_c l hl; apply s_q; decide; rfl; (simp only [go_sem]; rfl))
  rw [e]
  ((iterate 6 (apply s_q; decide; rfl; (simp only [go_sem]; rfl))); apply s_nil; simp only [AThen, ABlock]; refine hK _ _ ?_; clear hK K; refine AWp_seq_k (fun K hK => ?_); apply s_region; (iterate 2 (apply s_q; decide; rfl; (simp only [go_sem]; rfl))); apply s_nil; simp only [AThen, ABlock]; refine hK _ _ ?_; clear hK K; apply AWp_ret)
  exact h

def kvE (l : List (List UInt8 × J)) : List (List UInt8 × AV) := l.foldl (fun es p => kput p.1 (.agg p.2.cells) es) []
def jlast (l : List (List UInt8 × J)) (k : List UInt8) : Option J := l.foldl (fun o p => if p.1 = k then some p.2 else o) none
theorem kv_find (k : List UInt8) : ∀ (l : List (List UInt8 × J)) (es : List (List UInt8 × AV)) (o : Option J), kfind k es = o.map (fun x => AV.agg x.cells) →
    kfind k (l.foldl (fun es p => kput p.1 (.agg p.2.cells) es) es) = (l.foldl (fun o p => if p.1 = k then some p.2 else o) o).map fun x => AV.agg x.cells
  | [], es, o, h => h
  | p :: l, es, o, h => by
    simp only [List.foldl_cons]
    refine kv_find k l _ _ ?_
    rw [kfind_kput, h]
    split <;> rfl
theorem kvE_find (k : List UInt8) (l : List (List UInt8 × J)) : kfind k (kvE l) = (jlast l k).map fun x => AV.agg x.cells := kv_find k l [] none rfl
theorem jlast_mem {k : List UInt8} : ∀ {l : List (List UInt8 × J)} {o : Option J} {j : J}, l.foldl (fun o p => if p.1 = k then some p.2 else o) o = some j → o = some j ∨ ∃ p ∈ l, p.2 = j
  | [], o, j, h => .inl h
  | p :: l, o, j, h => by
    rcases jlast_mem (l := l) h with h | ⟨q, hq, e⟩
    · dsimp only at h
      split at h
      · cases h; exact .inr ⟨p, by simp, rfl⟩
      · exact .inl h
    · exact .inr ⟨q, by simp [hq], e⟩
def lv0 : Lv := ⟨0, 0, 0, 0, 0, 0, 0, [], []⟩
def lvOf (g : List UInt8 → Option J) : Option Lv :=
  let b1 := numB (g ([98, 97, 110] : List UInt8)) false
  let b2 := numB (g ([107, 105, 99, 107] : List UInt8)) b1
  let b3 := numB (g ([105, 110, 118, 105, 116, 101] : List UInt8)) b2
  let b4 := numB (g ([114, 101, 100, 97, 99, 116] : List UInt8)) b3
  let b5 := numB (g ([115, 116, 97, 116, 101, 95, 100, 101, 102, 97, 117, 108, 116] : List UInt8)) b4
  let b6 := numB (g ([101, 118, 101, 110, 116, 115, 95, 100, 101, 102, 97, 117, 108, 116] : List UInt8)) b5
  let b7 := numB (g ([117, 115, 101, 114, 115, 95, 100, 101, 102, 97, 117, 108, 116] : List UInt8)) b6
  let b8 := namesBad isUserB (g ([117, 115, 101, 114, 115] : List UInt8)) b7
  let b9 := namesBad isType (g ([101, 118, 101, 110, 116, 115] : List UInt8)) b8
  if b9 = true then none else some ⟨numR (g ([98, 97, 110] : List UInt8)) 50, numR (g ([107, 105, 99, 107] : List UInt8)) 50, numR (g ([105, 110, 118, 105, 116, 101] : List UInt8)) 0, numR (g ([114, 101, 100, 97, 99, 116] : List UInt8)) 50,
    numR (g ([115, 116, 97, 116, 101, 95, 100, 101, 102, 97, 117, 108, 116] : List UInt8)) 50, numR (g ([101, 118, 101, 110, 116, 115, 95, 100, 101, 102, 97, 117, 108, 116] : List UInt8)) 0, numR (g ([117, 115, 101, 114, 115, 95, 100, 101, 102, 97, 117, 108, 116] : List UInt8)) 0,
    namesR (g ([117, 115, 101, 114, 115] : List UInt8)), namesR (g ([101, 118, 101, 110, 116, 115] : List UInt8))⟩
def lvParse (j : J) : Option Lv := if j.kind = 5 then (if goodB 12 j = true then lvOf (jlast (j.ord.keys.zip j.ord.list)) else none) else none
def lvRes (o : Option Lv) : AV := match o with | some l => .tup [.agg l.cells, .v (.int .i64 0)] | none => .tup [.agg lv0.cells, .v (.int .i64 1)]

theorem ord_keys {n : Nat} {y : J} (hg : goodB n y = true) (hf : y.Fit) (hk : ∀ k ∈ y.keys, k.length < 4294967281) : (y.ord.keys.length ≤ 1000000000 ∧ y.ord.keys.length ≤ y.ord.list.length) ∧ ∀ k ∈ y.ord.keys, k.length < 4294967281 := by
  obtain ⟨⟨f1, f2⟩, f3, f4, f5⟩ := fit_eq.1 hf
  rw [ord_eq]
  split
  · refine ⟨⟨by simpa [J.keys, places_len] using f1, by simp [J.keys, J.list]⟩, fun k hkm => ?_⟩
    simp only [J.keys, List.mem_map] at hkm
    obtain ⟨i, hi, rfl⟩ := hkm
    have hlt := places_lt hi
    rw [List.getD_eq_getElem?_getD, List.getElem?_eq_getElem hlt]
    exact hk _ (List.getElem_mem hlt)
  · exact ⟨⟨by simp [J.keys], by simp [J.keys]⟩, fun k hkm => by simp [J.keys] at hkm⟩
theorem ord_list {j : J} (h5 : j.kind = 5) (hl : j.keys.length = j.list.length) {x : J} (hx : x ∈ j.ord.list) : ∃ y ∈ j.list, x = y.ord := by
  rw [ord_eq, if_pos h5] at hx
  simp only [J.list, List.mem_map] at hx
  obtain ⟨i, hi, rfl⟩ := hx
  have hlt := places_lt hi
  rw [hl] at hlt
  refine ⟨j.list[i], List.getElem_mem hlt, ?_⟩
  show (j.list.map J.ord).getD i (.mk 0 0 [] [] []) = _
  rw [List.getD_eq_getElem?_getD, List.getElem?_map, List.getElem?_eq_getElem hlt]; rfl
theorem zc_levels : zC X.P 58 = some [.v (.int .i64 0), .v (.int .i64 0), .v (.int .i64 0), .v (.int .i64 0), .v (.int .i64 0), .v (.int .i64 0), .v (.int .i64 0), .sl true [], .sl true []] := zc_58
abbrev lvz : AObj := .box 58 [.v (.int .i64 0), .v (.int .i64 0), .v (.int .i64 0), .v (.int .i64 0), .v (.int .i64 0), .v (.int .i64 0), .v (.int .i64 0), .sl true [], .sl true []]
set_option maxHeartbeats 4000000 in
theorem parse_c (j : J) (hf : J.Fit j) (hs : (∀ k ∈ j.keys, k.length < 4294967281) ∧ ∀ x ∈ j.list, ∀ k ∈ x.keys, k.length < 4294967281) (H : AHeap) (Kc : AV → AHeap → Prop) (h : Kc (lvRes (lvParse j)) H) : ACall X 68 [.agg j.cells] H Kc := by
  refine ACall.post ?_
  rw [J.cells_eq]
  refine ACall_intro Tryz.func68 rfl (by kernel_rfl) (by rw [Tryz.ntmps68]; simp) ?_; rw [Tryz.ntmps68]; simp only [frame0, Nat.reduceAdd]
  refine AWp_seq_k (fun K hK => ?_); apply s_region
  apply s_box; decide; exact (by simp only [go_sem]; try rfl); exact (by simp only [go_sem]; try rfl); intro p hp
  apply s_alloc; decide; exact zc_levels; intro r hr
  (apply s_q; decide; rfl; (simp only [go_sem]; rfl); apply s_nil; simp only [AThen, ABlock]; refine hK _ _ ?_; clear hK K; (iterate 2 (refine AWp_seq_k (fun K hK => ?_))); apply s_region; apply s_q; decide; rfl; (simp only [go_sem]; rfl))
  have g1 := get_fresh (AHeap.get_put_same p (jbox j.kind j.int j.text (.sl false (j.keys.map strCells)) (.sl false (j.list.map J.cells))) H) hr (x := lvz)
  have g2 := AHeap.get_put_same r lvz (H.put p (jbox j.kind j.int j.text (.sl false (j.keys.map strCells)) (.sl false (j.list.map J.cells))))
  have hE := (Ext.fresh hp (o := jbox j.kind j.int j.text (.sl false (j.keys.map strCells)) (.sl false (j.list.map J.cells)))).put hr (ob := lvz)
  have hHr : H.get r = none := none_fresh hr
  have hpr := get_ne_fresh (AHeap.get_put_same p (jbox j.kind j.int j.text (.sl false (j.keys.map strCells)) (.sl false (j.list.map J.cells))) H) hr
  generalize (H.put p (jbox j.kind j.int j.text (.sl false (j.keys.map strCells)) (.sl false (j.list.map J.cells)))).put r lvz = M at g1 g2 hE ⊢
  ((iterate 3 (apply s_q; decide; rfl; (simp only [go_sem, g1]; rfl))); apply s_spec; decide; rfl; rfl; (simp only [go_sem, g1]; rfl); (simp only [go_sem, g1]; rfl); (simp only [go_sem, g1]; rfl); (simp only [go_sem, g1]; rfl); trivial; apply s_gpure; decide; (simp only [go_sem, g1]; rfl); (simp only [go_sem, g1]; rfl); (simp only [go_sem, g1]; rfl); simp [condsOk]; (simp only [go_sem, g1]; rfl); (simp only [go_sem, g1]; rfl); (refine ACall.args_eq (bs := [.agg j.cells]) ?_ ?_; (focus (rw [J.cells_eq j]; done)); apply Good_c j _ _ hf; exact ⟨rfl, rfl⟩); apply s_spec; decide; rfl; rfl; (simp only [go_sem, g1]; rfl); (simp only [go_sem, g1]; rfl); (simp only [go_sem, g1]; rfl); (simp only [go_sem, g1]; rfl); simp [condsOk]; apply s_pick; decide; (simp only [go_sem, g1]; rfl); (simp only [go_sem, g1]; rfl); (simp only [go_sem, g1]; rfl); (simp only [go_sem, g1]; rfl); (simp only [go_sem, g1]; rfl); (simp only [go_sem, g1]; rfl); trivial; trivial; simp [condsOk]; apply s_nil; simp only [AThen, ABlock]; refine hK _ _ ?_; clear hK K)
  refine cond_split (by simp only [go_sem]; try rfl) (fun hc => ?_) (fun hc => ?_)
  · have hn : lvParse j = none := by
      rw [lvParse]
      by_cases h5 : j.kind = 5
      · rw [if_pos h5]
        rw [if_neg (by simpa [h5] using hc)]
      · rw [if_neg h5]
    rw [hn] at h
    (refine AWp_seq_k (fun K hK => ?_); apply s_region; apply s_q; decide; rfl; (simp only [go_sem, zc_levels, g2]; rfl); apply s_store; (simp only [go_sem, zc_levels, g2]; rfl); (simp only [go_sem, zc_levels, g2]; rfl); (simp only [go_sem, zc_levels, g2]; rfl); apply s_q; decide; rfl; (simp only [go_sem, zc_levels, g2]; rfl); apply s_nil; simp only [AThen, ABlock]; refine hK _ _ ?_; clear hK K; apply AWp_ret)
    try simp only [AThen, ABlock]
    refine end_ret (av := .tup [.agg [.v (.int .i64 0), .v (.int .i64 0), .v (.int .i64 0), .v (.int .i64 0), .v (.int .i64 0), .v (.int .i64 0), .v (.int .i64 0), .sl true [], .sl true []], .v (.int .i64 1)]) (by show resAV X.P _ _ [.cell 2 58, .tmp 3] = _; simp only [go_sem]; try rfl) ⟨_, _, Snap.trans Snap.loosen (Snap.drop (hE.over hHr)), h⟩
  have hc' : j.kind = 5 ∧ goodB 12 j = true := by
    by_cases h5 : j.kind = 5
    · refine ⟨h5, ?_⟩; simpa [h5] using hc
    · simp [h5] at hc
  obtain ⟨h5, hg⟩ := hc'
  rw [lvParse, if_pos h5, if_pos hg] at h
  obtain ⟨c, hcc⟩ : ∃ c, c = j.ord := ⟨_, rfl⟩
  rw [← hcc] at h
  have hOrd : ∀ (H : AHeap) (K : AV → AHeap → Prop), K (.agg [.v (.int .i64 c.kind), .v (.int .i64 c.int), .s c.text, .sl false (c.keys.map strCells), .sl false (c.list.map J.cells)]) H → ACall X 99 [.agg j.cells] H K := fun H K hk => Order_c j hf (by rw [if_pos hg, ← hcc, J.cells_eq]; exact hk)
  (apply AWp_skip; simp only [AThen, ABlock]; refine hK _ _ ?_; clear hK K; refine AWp_seq_k (fun K hK => ?_); apply s_region; apply s_q; decide; rfl; (simp only [go_sem, g1]; rfl); apply s_call; decide; (simp only [go_sem, g1]; rfl); (simp only [go_sem, g1]; rfl); refine ACall.args_eq (bs := [.agg j.cells]) ?_ ?_; (focus (rw [J.cells_eq j]; done)); apply hOrd; apply s_store; (simp only [go_sem, g1]; rfl); (simp only [go_sem, g1]; rfl); (simp only [go_sem, g1]; rfl); apply s_nil; simp only [AThen, ABlock]; refine hK _ _ ?_; clear hK K; refine AWp_seq_k (fun K hK => ?_); apply s_region; apply s_smap; decide; exact mp_115; intro b hb; apply s_q; decide; rfl; (simp only [go_sem, g1]; rfl); apply s_box; decide; (simp only [go_sem, g1]; rfl); (simp only [go_sem, g1]; rfl); intro b hb; apply s_q; decide; rfl; (simp only [go_sem, g1]; rfl); apply s_nil; simp only [AThen, ABlock]; refine hK _ _ ?_; clear hK K; (iterate 2 (refine AWp_seq_k (fun K hK => ?_))); apply s_region; apply s_q; decide; rfl; (simp only [go_sem, g1]; rfl))
  rename_i m hm K1 hK1
  obtain ⟨q, hqe⟩ : ∃ q, q = b := ⟨_, rfl⟩
  have hq := hb
  rw [← hqe] at hq ⊢
  clear hb hqe b
  obtain ⟨z, hz⟩ : ∃ z, z = c.keys.zip c.list := ⟨_, rfl⟩
  have hcf := ord_keys hg hf hs.1
  rw [← hcc] at hcf
  have hclen : c.list.length = c.keys.length := by
    rw [hcc, ord_eq, if_pos h5]; simp [J.keys, J.list]
  have k1 := get_fresh (get_fresh (AHeap.get_put_same p (jbox c.kind c.int c.text (.sl false (c.keys.map strCells)) (.sl false (c.list.map J.cells))) M) hm (x := .smap [])) hq (x := cbox m false)
  have k2 := get_fresh (get_fresh (get_other (x := (jbox c.kind c.int c.text (.sl false (c.keys.map strCells)) (.sl false (c.list.map J.cells)))) g2 hpr.symm) hm (x := .smap [])) hq (x := cbox m false)
  have k3 := get_fresh (AHeap.get_put_same m (.smap []) (M.put p (jbox c.kind c.int c.text (.sl false (c.keys.map strCells)) (.sl false (c.list.map J.cells))))) hq (x := cbox m false)
  have k4 := AHeap.get_put_same q (cbox m false) ((M.put p (jbox c.kind c.int c.text (.sl false (c.keys.map strCells)) (.sl false (c.list.map J.cells)))).put m (.smap []))
  have hE1 := ((hE.over (o := (jbox c.kind c.int c.text (.sl false (c.keys.map strCells)) (.sl false (c.list.map J.cells)))) hp).put hm (ob := .smap [])).put hq (ob := cbox m false)
  have hHm : H.get m = none := none_of_ext (hE.over (o := (jbox c.kind c.int c.text (.sl false (c.keys.map strCells)) (.sl false (c.list.map J.cells)))) hp) hm
  have hHq : H.get q = none := none_of_ext ((hE.over (o := (jbox c.kind c.int c.text (.sl false (c.keys.map strCells)) (.sl false (c.list.map J.cells)))) hp).put hm (ob := .smap [])) hq
  have hpm : p ≠ m := get_ne_fresh (AHeap.get_put_same p (jbox c.kind c.int c.text (.sl false (c.keys.map strCells)) (.sl false (c.list.map J.cells))) M) hm
  have hrm : r ≠ m := get_ne_fresh (get_other (x := (jbox c.kind c.int c.text (.sl false (c.keys.map strCells)) (.sl false (c.list.map J.cells)))) g2 hpr.symm) hm
  have hmq : m ≠ q := get_ne_fresh (AHeap.get_put_same m (.smap []) (M.put p (jbox c.kind c.int c.text (.sl false (c.keys.map strCells)) (.sl false (c.list.map J.cells))))) hq
  generalize ((M.put p (jbox c.kind c.int c.text (.sl false (c.keys.map strCells)) (.sl false (c.list.map J.cells)))).put m (.smap [])).put q (cbox m false) = M1 at k1 k2 k3 k4 hE1 ⊢
  clear g1 g2 hE
  ((iterate 3 (apply s_q; decide; rfl; (simp only [go_sem, k1]; rfl))); apply s_nil; simp only [AThen, ABlock]; refine hK _ _ ?_; clear hK K; apply AWp_block)
  refine AWp_loop_s (σ := Nat × AHeap) [1, 2, 3, 4, 23, 24, 25] (fun s => [ptrTo p, ptrTo r, .v (.int .i64 0), ptrTo q, .sl false (c.keys.map strCells), .v (.int .i64 (c.keys.length : Nat)), .v (.int .i64 s.1)]) (fun s => s.2) (fun s => c.keys.length - s.1)
    (fun s => s.1 ≤ c.keys.length ∧ s.2.get p = some (jbox c.kind c.int c.text (.sl false (c.keys.map strCells)) (.sl false (c.list.map J.cells))) ∧ s.2.get r = some lvz ∧ s.2.get m = some (.smap (kvE (z.take s.1))) ∧ s.2.get q = some (cbox m false) ∧ Ext H s.2)
    (0, M1) ⟨Nat.zero_le _, k1, k2, k3, k4, hE1⟩ (by simp only [getAll, List.map_cons, List.map_nil, AFr.get, reduceIte, Nat.reduceEqDiff, List.length_map]; rfl) rfl (fun s hs => ?_)
  obtain ⟨n, L⟩ := s
  obtain ⟨hn, hpL, hrL, hmL, hqL, hEL⟩ := hs
  simp only [List.zip_cons_cons, List.zip_nil_right] at hn hpL hrL hmL hqL hEL ⊢
  clear k1 k2 k3 k4 hE1
  (refine AWp_seq_k (fun K hK => ?_); apply s_region; apply s_q; decide; rfl; (simp only [go_sem]; rfl); apply s_nil; simp only [AThen, ABlock]; refine hK _ _ ?_; clear hK K; refine AWp_seq_k (fun K hK => ?_))
  refine cond_split (by simp only [go_sem]; try rfl) (fun hd => ?_) (fun hd => ?_)
  · have hlt : n < c.keys.length := by simpa using hd
    obtain ⟨ky, hky⟩ := gete hlt
    have hgk := jstr_at hky
    obtain ⟨x, hx⟩ := gete (l := c.list) (i := n) (by omega)
    have hgx := jget_at hx
    have hzn : z[n]? = some (ky, x) := by rw [hz, List.getElem?_zip_eq_some]; exact ⟨hky, hx⟩
    have ht : z.take (n + 1) = z.take n ++ [(ky, x)] := take_succ hzn
    (apply AWp_skip; simp only [AThen, ABlock]; refine hK _ _ ?_; clear hK K; refine AWp_seq_k (fun K hK => ?_); apply AWp_block; refine AWp_seq_k (fun K hK => ?_); apply s_region; (iterate 5 (apply s_q; decide; rfl; (simp only [go_sem, hgk, hqL, hpL]; rfl))); apply s_nil; simp only [AThen, ABlock]; refine hK _ _ ?_; clear hK K)
    apply AWp_drawA [0, 1, 2, 3, 4, 5, 6, 7, 8, 9] [10] 0 (by exact mixed); kernel_rfl; (simp only [go_sem]; rfl); (simp only [go_sem]; rfl)
    ((iterate 10 (apply e_q; decide; (simp only [go_sem, hpL, hqL, hmL, hgx]; rfl))); apply e_nil; apply t_mapput; rfl; (simp only [go_sem, hpL, hqL, hmL, hgx]; rfl); (simp only [go_sem, hpL, hqL, hmL, hgx]; rfl); (simp only [go_sem, hpL, hqL, hmL, hgx]; rfl); (simp only [go_sem, hpL, hqL, hmL, hgx]; rfl); apply t_nil; simp only [AThen, ABlock]; refine hK _ _ ?_; clear hK K; apply s_region; (iterate 2 (apply s_q; decide; rfl; (simp only [go_sem, hpL, hqL, hmL, hgx]; rfl))); apply s_nil; simp only [AThen, ABlock])
    refine ⟨(n + 1, _), by simp only; omega, ⟨by simp only; omega, get_other hpL hpm, get_other hrL hrm, ?_, get_other hqL hmq.symm, hEL.over hHm⟩, ?_, by trivial⟩
    · simp only [ht]
      rw [show kvE (z.take n ++ [(ky, x)]) = kput ky (.agg x.cells) (kvE (z.take n)) by rw [kvE, List.foldl_append]; rfl, J.cells_eq]
      exact AHeap.get_put_same _ _ _
    · simp only [getAll, List.map_cons, List.map_nil, AFr.get, reduceIte, Nat.reduceEqDiff]
      rw [wrapS hlt (by omega)]; try rfl
  · have hge : c.keys.length ≤ n := by simpa using hd
    have htk : z.take n = z := List.take_of_length_le (by rw [hz, List.length_zip]; omega)
    rw [htk] at hmL
    (apply AWp_exit; simp only [AThen, ABlock, reduceIte, Nat.reduceEqDiff])
    refine hK1 _ _ ?_
    have hrq : r ≠ q := by rintro rfl; rw [hrL] at hqL; cases hqL
    have hmm : ∀ b, (L.put q (cbox m b)).get m = some (.smap (kvE z)) := fun b => get_other hmL hmq
    have hL : L = L.put q (cbox m false) := (put_self hqL).symm
    rw [hL]
    rw [← hz] at h
    have hkv := fun k => kvE_find k z
    obtain ⟨G, hG⟩ : ∃ G, G = jlast z := ⟨_, rfl⟩
    rw [← hG] at h hkv
    have hnm : ∀ (k : List UInt8) (x : J), G k = some x → (x.keys.length ≤ 1000000000 ∧ x.keys.length ≤ x.list.length) ∧ ∀ k ∈ x.keys, k.length < 4294967281 := fun k x hx => by
      rw [hG] at hx
      rcases jlast_mem (o := none) hx with hx | ⟨pr, hpr1, hpr2⟩
      · cases hx
      obtain ⟨ky, y⟩ := pr
      rw [hz] at hpr1
      have hyc := (List.of_mem_zip hpr1).2
      have hy2 : y = x := hpr2
      subst hy2
      rw [hcc] at hyc
      obtain ⟨w, hw, rfl⟩ := ord_list h5 (shaped_map (good_shaped hg) h5).1 hyc
      obtain ⟨mm, _, hgl⟩ := good_list hg
      exact ord_keys (hgl w hw) ((fit_eq.1 hf).2.2.2 w hw) (hs.2 w hw)
    have hrr : ∀ b, (L.put q (cbox m b)).get r = some lvz := fun b => get_other hrL hrq
    have hEE : ∀ b, Ext H (L.put q (cbox m b)) := fun b => hEL.over hHq
    (refine AWp_seq_k (fun K hK => ?_); apply s_region; apply s_q; decide; rfl; (simp only [go_sem, hrL]; rfl); apply s_call; decide; (simp only [go_sem, hrL]; rfl); (simp only [go_sem, hrL]; rfl); refine number_c q m _ _ _ _ (hkv _) _ _ (AHeap.get_put_same _ _ _) (hmm _) _ ?_; rw [AHeap.put_put]; apply s_q; decide; rfl; (simp only [go_sem, hrL]; rfl); apply s_call; decide; (simp only [go_sem, hrL]; rfl); (simp only [go_sem, hrL]; rfl); refine number_c q m _ _ _ _ (hkv _) _ _ (AHeap.get_put_same _ _ _) (hmm _) _ ?_; rw [AHeap.put_put]; apply s_q; decide; rfl; (simp only [go_sem, hrL]; rfl); apply s_call; decide; (simp only [go_sem, hrL]; rfl); (simp only [go_sem, hrL]; rfl); refine number_c q m _ _ _ _ (hkv _) _ _ (AHeap.get_put_same _ _ _) (hmm _) _ ?_; rw [AHeap.put_put]; apply s_q; decide; rfl; (simp only [go_sem, hrL]; rfl); apply s_call; decide; (simp only [go_sem, hrL]; rfl); (simp only [go_sem, hrL]; rfl); refine number_c q m _ _ _ _ (hkv _) _ _ (AHeap.get_put_same _ _ _) (hmm _) _ ?_; rw [AHeap.put_put]; apply s_q; decide; rfl; (simp only [go_sem, hrL]; rfl); apply s_call; decide; (simp only [go_sem, hrL]; rfl); (simp only [go_sem, hrL]; rfl); refine number_c q m _ _ _ _ (hkv _) _ _ (AHeap.get_put_same _ _ _) (hmm _) _ ?_; rw [AHeap.put_put]; apply s_q; decide; rfl; (simp only [go_sem, hrL]; rfl); apply s_call; decide; (simp only [go_sem, hrL]; rfl); (simp only [go_sem, hrL]; rfl); refine number_c q m _ _ _ _ (hkv _) _ _ (AHeap.get_put_same _ _ _) (hmm _) _ ?_; rw [AHeap.put_put]; apply s_q; decide; rfl; (simp only [go_sem, hrL]; rfl); apply s_call; decide; (simp only [go_sem, hrL]; rfl); (simp only [go_sem, hrL]; rfl); refine number_c q m _ _ _ _ (hkv _) _ _ (AHeap.get_put_same _ _ _) (hmm _) _ ?_; rw [AHeap.put_put]; apply s_q; decide; rfl; (simp only [go_sem, hrL]; rfl); apply s_call; decide; (simp only [go_sem, hrL]; rfl); (simp only [go_sem, hrL]; rfl); refine names_c q m _ _ _ _ (hkv _) _ isUserB (fun l hl H K hk => puserB_c l hl H K hk) (hnm _) _ (AHeap.get_put_same _ _ _) (hmm _) _ ?_; rw [AHeap.put_put]; apply s_q; decide; rfl; (simp only [go_sem, hrL]; rfl); apply s_call; decide; (simp only [go_sem, hrL]; rfl); (simp only [go_sem, hrL]; rfl); refine names_c q m _ _ _ _ (hkv _) _ isType (fun l hl H K hk => type_c l H K hk) (hnm _) _ (AHeap.get_put_same _ _ _) (hmm _) _ ?_; rw [AHeap.put_put]; apply s_q; decide; rfl; (simp only [go_sem, hrL]; rfl); apply s_alloc; decide; exact zc_58; intro b hb; apply s_store; (simp only [go_sem, hrL]; rfl); (simp only [go_sem, hrL]; rfl); (simp only [go_sem, hrL]; rfl); apply s_nil; simp only [AThen, ABlock]; refine hK _ _ ?_; clear hK K; (iterate 2 (refine AWp_seq_k (fun K hK => ?_))); apply s_region; (iterate 3 (apply s_q; decide; rfl; (simp only [go_sem, hrL]; rfl))))
    have gq := fun (o : AObj) => get_fresh (x := o) (AHeap.get_put_same q (cbox m _) L) hb
    have gr := fun (o : AObj) => get_fresh (x := o) (hrr _) hb
    have gE := fun (o : AObj) => (hEE _).put (ob := o) hb
    (apply s_q; decide; rfl; (simp only [go_sem, gq]; rfl); apply s_nil; simp only [AThen, ABlock]; refine hK _ _ ?_; clear hK K)
    refine cond_split (by simp only [go_sem]; try rfl) (fun hb9 => ?_) (fun hb9 => ?_)
    · have hn : lvOf G = none := by unfold lvOf; exact if_pos hb9
      rw [hn] at h
      (refine AWp_seq_k (fun K hK => ?_); apply s_region; apply s_q; decide; rfl; (simp only [go_sem, zc_levels, gr]; rfl); apply s_store; (simp only [go_sem, zc_levels, gr]; rfl); (simp only [go_sem, zc_levels, gr]; rfl); (simp only [go_sem, zc_levels, gr]; rfl); apply s_q; decide; rfl; (simp only [go_sem, zc_levels, gr]; rfl); apply s_nil; simp only [AThen, ABlock]; refine hK _ _ ?_; clear hK K; apply AWp_ret)
      try simp only [AThen, ABlock]
      refine end_ret (av := .tup [.agg [.v (.int .i64 0), .v (.int .i64 0), .v (.int .i64 0), .v (.int .i64 0), .v (.int .i64 0), .v (.int .i64 0), .v (.int .i64 0), .sl true [], .sl true []], .v (.int .i64 1)]) (by show resAV X.P _ _ [.cell 2 58, .tmp 3] = _; simp only [go_sem]; try rfl) ⟨_, _, Snap.trans Snap.loosen (Snap.drop ((gE _).over hHr)), h⟩
    · have hn := show lvOf G = some _ by unfold lvOf; exact if_neg (by rw [hb9]; decide)
      rw [hn] at h
      (apply AWp_skip; simp only [AThen, ABlock]; refine hK _ _ ?_; clear hK K; refine AWp_seq_k (fun K hK => ?_); apply s_region; apply s_q; decide; rfl; (simp only [go_sem, gr]; rfl); apply s_store; (simp only [go_sem, gr]; rfl); (simp only [go_sem, gr]; rfl); (simp only [go_sem, gr]; rfl); apply s_q; decide; rfl; (simp only [go_sem, gr]; rfl); apply s_nil; simp only [AThen, ABlock]; refine hK _ _ ?_; clear hK K; apply AWp_ret)
      try simp only [AThen, ABlock]
      refine end_ret (by show resAV X.P _ _ [.cell 2 58, .tmp 3] = _; simp only [go_sem]; try rfl) ⟨_, _, Snap.drop ((gE _).over hHr), h⟩
end Go.Proofs.YtcpfgjfiacfmoaaGreatDoor

set_option linter.unusedSimpArgs false
set_option linter.unusedVariables false
set_option maxRecDepth 100000
namespace Go.Proofs.YtcpfgjfiacfmoaaGreatDoor
open Go Go.AL
attribute [local irreducible] AOps AWp SOps AE AT ACall AApp

def jGet (j : J) (key : List UInt8) : Option J := if j.kind = 5 then ((j.keys.zip j.list).find? fun p => decide (p.1 = key)).map (·.2) else none
end Go.Proofs.YtcpfgjfiacfmoaaGreatDoor

set_option linter.unusedSimpArgs false
set_option linter.unusedVariables false
set_option maxRecDepth 100000
namespace Go.Proofs.YtcpfgjfiacfmoaaGreatDoor
open Go Go.AL

theorem jlast_none {k : List UInt8} : ∀ {l : List (List UInt8 × J)} {o : Option J}, (∀ p ∈ l, p.1 ≠ k) → l.foldl (fun o p => if p.1 = k then some p.2 else o) o = o
  | [], o, _ => rfl
  | p :: l, o, h => by
    rw [List.foldl_cons, if_neg (h p (by simp))]
    exact jlast_none (fun q hq => h q (by simp [hq]))
theorem jlast_of {l : List (List UInt8 × J)} {k : List UInt8} {x : J} (hn : (l.map (·.1)).Nodup) (hm : (k, x) ∈ l) : jlast l k = some x := by
  obtain ⟨a, b, rfl⟩ := List.append_of_mem hm
  rw [jlast, List.foldl_append, List.foldl_cons, if_pos rfl]
  refine jlast_none (fun p hp => ?_)
  rintro rfl
  rw [List.map_append, List.map_cons] at hn
  have h2 := (List.nodup_append.1 hn).2.1
  rw [List.nodup_cons] at h2
  exact h2.1 (List.mem_map.2 ⟨p, hp, rfl⟩)
theorem jlast_not {l : List (List UInt8 × J)} {k : List UInt8} (h : ∀ p ∈ l, p.1 ≠ k) : jlast l k = none := jlast_none h
theorem ord_zip {j : J} (h5 : j.kind = 5) : j.ord.keys.zip j.ord.list = (placesOf j.keys).map fun i => (j.keys.getD i [], (j.list.map J.ord).getD i (.mk 0 0 [] [] [])) := by
  rw [ord_eq, if_pos h5]
  simp only [J.keys, J.list]
  exact List.zip_map'
theorem places_nodup (ks : List (List UInt8)) : (placesOf ks).Nodup := (places_perm ks).nodup_iff.2 List.nodup_range
theorem places_mem {ks : List (List UInt8)} {i : Nat} (h : i < ks.length) : i ∈ placesOf ks := (places_perm ks).mem_iff.2 (List.mem_range.2 h)
theorem ord_nodup {j : J} (h5 : j.kind = 5) (hn : j.keys.Nodup) : ((j.ord.keys.zip j.ord.list).map (·.1)).Nodup := by
  rw [ord_zip h5, List.map_map]
  refine List.pairwise_map.2 ((places_nodup j.keys).imp_of_mem fun {a b} ha hb hab e => hab ?_)
  exact nodup_getD hn (places_lt ha) (places_lt hb) e
theorem look {j : J} {n : Nat} (hg : goodB n j = true) (h5 : j.kind = 5) (k : List UInt8) : jlast (j.ord.keys.zip j.ord.list) k = (jGet j k).map J.ord := by
  obtain ⟨s1, s2, _⟩ := shaped_map (good_shaped hg) h5
  rw [jGet, if_pos h5]
  cases hf : (j.keys.zip j.list).find? (fun p => decide (p.1 = k)) with
  | none =>
    rw [List.find?_eq_none] at hf
    refine jlast_not fun p hp => ?_
    rw [ord_zip h5] at hp
    obtain ⟨i, hi, rfl⟩ := List.mem_map.1 hp
    have hlt := places_lt hi
    have hm : (j.keys[i], j.list[i]'(by omega)) ∈ j.keys.zip j.list := List.mem_iff_getElem.2 ⟨i, by rw [List.length_zip]; omega, by simp⟩
    have := hf _ hm
    simp only [decide_eq_true_eq] at this
    simp only [List.getD_eq_getElem?_getD, List.getElem?_eq_getElem hlt]
    exact this
  | some p =>
    obtain ⟨k', x⟩ := p
    have e : k' = k := by simpa using List.find?_some hf
    subst e
    obtain ⟨i, hi, he⟩ := List.mem_iff_getElem.1 (List.mem_of_find?_eq_some hf)
    rw [List.length_zip] at hi
    rw [List.getElem_zip] at he
    obtain ⟨e1, e2⟩ := Prod.mk.inj he
    show _ = some x.ord
    refine jlast_of (ord_nodup h5 s2) ?_
    rw [ord_zip h5]
    refine List.mem_map.2 ⟨i, places_mem (by omega), ?_⟩
    rw [List.getD_eq_getElem?_getD, List.getD_eq_getElem?_getD, List.getElem?_map, List.getElem?_eq_getElem (by omega : i < j.keys.length), List.getElem?_eq_getElem (by omega : i < j.list.length), e1, e2]
    rfl
def putJ (c : J) (k : List UInt8) (m : J) : J := .mk 5 0 [] (c.keys ++ [k]) (c.list ++ [m])
theorem put_kind (c m : J) (k : List UInt8) : (putJ c k m).kind = 5 := rfl
theorem put_keys (c m : J) (k : List UInt8) : (putJ c k m).keys = c.keys ++ [k] := rfl
theorem put_list (c m : J) (k : List UInt8) : (putJ c k m).list = c.list ++ [m] := rfl
theorem get_put {c m : J} {k : List UInt8} (h5 : c.kind = 5) (hl : c.keys.length = c.list.length) (hnew : jGet c k = none) (q : List UInt8) : jGet (putJ c k m) q = if q = k then some m else jGet c q := by
  have e : (c.keys ++ [k]).zip (c.list ++ [m]) = c.keys.zip c.list ++ [(k, m)] := by rw [List.zip_append hl]; rfl
  rw [jGet, if_pos h5] at hnew
  rw [jGet, jGet, if_pos h5]
  simp only [put_kind, put_keys, put_list, if_true, e, List.find?_append]
  by_cases h : q = k
  · subst h
    rw [if_pos rfl]
    have : (c.keys.zip c.list).find? (fun p => decide (p.1 = q)) = none := by simpa using hnew
    rw [this]; simp
  · rw [if_neg h]
    cases (c.keys.zip c.list).find? (fun p => decide (p.1 = q)) with
    | some p => rfl
    | none => simp [Ne.symm h]
theorem lvParse_look {c : J} (h5 : c.kind = 5) (hg : goodB 12 c = true) : lvParse c = lvOf (fun k => (jGet c k).map J.ord) := by
  rw [lvParse, if_pos h5, if_pos hg]
  congr 1
  funext k
  exact look hg h5 k
end Go.Proofs.YtcpfgjfiacfmoaaGreatDoor

set_option linter.unusedSimpArgs false
set_option linter.unusedVariables false
set_option maxRecDepth 100000
namespace Go.Proofs.YtcpfgjfiacfmoaaGreatDoor
open Go Go.AL
attribute [local irreducible] AOps AWp SOps AE AT ACall AApp

def tellB (o : Option J) : Bool := match o with | none => true | some v => levelB v
def nameOk (p : List UInt8 → Bool) (o : Option J) : Bool := match o with | none => true | some v => decide (v.kind = 5) && (v.keys.zip v.list).all fun x => levelB x.2 && p x.1
theorem numB_eq (o : Option J) (b : Bool) : numB o b = (b || !tellB o) := by
  cases o with
  | none => simp [numB, tellB]
  | some v => cases b <;> simp [numB, tellB]
theorem namesB_eq (p : List UInt8 → Bool) : ∀ (l : List (List UInt8 × J)) (b : Bool), namesB p b l = (b || !(l.all fun x => levelB x.2 && p x.1))
  | [], b => by simp [namesB]
  | x :: l, b => by
    show namesB p (if (if b = true then true else !levelB x.2) = true then true else !p x.1) l = _
    rw [namesB_eq p l, List.all_cons]
    generalize (l.all fun x => levelB x.2 && p x.1) = c
    generalize levelB x.2 = d
    generalize p x.1 = e
    revert b c d e
    decide
theorem namesBad_eq (p : List UInt8 → Bool) (o : Option J) (b : Bool) : namesBad p o b = (b || !nameOk p o) := by
  cases o with
  | none => simp [namesBad, nameOk]
  | some v =>
    show namesB p (if b = true then true else !decide (v.kind = 5)) (v.keys.zip v.list) = (b || !(decide (v.kind = 5) && _))
    rw [namesB_eq]
    generalize (v.keys.zip v.list).all (fun x => levelB x.2 && p x.1) = c
    generalize decide (v.kind = 5) = d
    revert b c d
    decide
theorem ord_kind (v : J) : v.ord.kind = v.kind := by
  rw [ord_eq]; split
  · rename_i h; rw [h]; rfl
  · rfl
theorem ord_int (v : J) : v.ord.int = v.int := by
  rw [ord_eq]; split <;> rfl
theorem tellB_ord (o : Option J) : tellB (o.map J.ord) = tellB o := by
  cases o with
  | none => rfl
  | some v => simp only [Option.map_some, tellB, levelB, ord_kind, ord_int]
theorem numR_ord (o : Option J) (n : Int) : numR (o.map J.ord) n = numR o n := by
  cases o with
  | none => rfl
  | some v => simp only [Option.map_some, numR, ord_int]
def docOk (j : J) : Bool := tellB (jGet j ([98, 97, 110] : List UInt8)) && tellB (jGet j ([107, 105, 99, 107] : List UInt8)) && tellB (jGet j ([105, 110, 118, 105, 116, 101] : List UInt8)) && tellB (jGet j ([114, 101, 100, 97, 99, 116] : List UInt8)) &&
  tellB (jGet j ([115, 116, 97, 116, 101, 95, 100, 101, 102, 97, 117, 108, 116] : List UInt8)) && tellB (jGet j ([101, 118, 101, 110, 116, 115, 95, 100, 101, 102, 97, 117, 108, 116] : List UInt8)) && tellB (jGet j ([117, 115, 101, 114, 115, 95, 100, 101, 102, 97, 117, 108, 116] : List UInt8)) &&
  nameOk isUserB ((jGet j ([117, 115, 101, 114, 115] : List UInt8)).map J.ord) && nameOk isType ((jGet j ([101, 118, 101, 110, 116, 115] : List UInt8)).map J.ord)
def docLv (j : J) : Lv := ⟨numR (jGet j ([98, 97, 110] : List UInt8)) 50, numR (jGet j ([107, 105, 99, 107] : List UInt8)) 50, numR (jGet j ([105, 110, 118, 105, 116, 101] : List UInt8)) 0, numR (jGet j ([114, 101, 100, 97, 99, 116] : List UInt8)) 50,
  numR (jGet j ([115, 116, 97, 116, 101, 95, 100, 101, 102, 97, 117, 108, 116] : List UInt8)) 50, numR (jGet j ([101, 118, 101, 110, 116, 115, 95, 100, 101, 102, 97, 117, 108, 116] : List UInt8)) 0, numR (jGet j ([117, 115, 101, 114, 115, 95, 100, 101, 102, 97, 117, 108, 116] : List UInt8)) 0,
  namesR ((jGet j ([117, 115, 101, 114, 115] : List UInt8)).map J.ord), namesR ((jGet j ([101, 118, 101, 110, 116, 115] : List UInt8)).map J.ord)⟩
theorem lvParse_doc {c : J} (h5 : c.kind = 5) (hg : goodB 12 c = true) : lvParse c = if docOk c = true then some (docLv c) else none := by
  rw [lvParse_look h5 hg]
  unfold lvOf
  simp only [numB_eq, namesBad_eq, tellB_ord, numR_ord]
  unfold docOk docLv
  generalize tellB (jGet c ([98, 97, 110] : List UInt8)) = t1
  generalize tellB (jGet c ([107, 105, 99, 107] : List UInt8)) = t2
  generalize tellB (jGet c ([105, 110, 118, 105, 116, 101] : List UInt8)) = t3
  generalize tellB (jGet c ([114, 101, 100, 97, 99, 116] : List UInt8)) = t4
  generalize tellB (jGet c ([115, 116, 97, 116, 101, 95, 100, 101, 102, 97, 117, 108, 116] : List UInt8)) = t5
  generalize tellB (jGet c ([101, 118, 101, 110, 116, 115, 95, 100, 101, 102, 97, 117, 108, 116] : List UInt8)) = t6
  generalize tellB (jGet c ([117, 115, 101, 114, 115, 95, 100, 101, 102, 97, 117, 108, 116] : List UInt8)) = t7
  generalize nameOk isUserB ((jGet c ([117, 115, 101, 114, 115] : List UInt8)).map J.ord) = t8
  generalize nameOk isType ((jGet c ([101, 118, 101, 110, 116, 115] : List UInt8)).map J.ord) = t9
  have e : (false || !t1 || !t2 || !t3 || !t4 || !t5 || !t6 || !t7 || !t8 || !t9) = !(t1 && t2 && t3 && t4 && t5 && t6 && t7 && t8 && t9) := by revert t1 t2 t3 t4 t5 t6 t7 t8 t9; decide
  rw [e]
  cases (t1 && t2 && t3 && t4 && t5 && t6 && t7 && t8 && t9) <;> rfl
theorem jGet_mem {j v : J} {k : List UInt8} (h : jGet j k = some v) : v ∈ j.list := by
  rw [jGet] at h
  split at h
  · rw [Option.map_eq_some_iff] at h
    obtain ⟨p, hp, rfl⟩ := h
    exact (List.of_mem_zip (List.mem_of_find?_eq_some hp)).2
  · cases h
end Go.Proofs.YtcpfgjfiacfmoaaGreatDoor

set_option linter.unusedSimpArgs false
set_option linter.unusedVariables false
set_option maxRecDepth 100000
namespace Go.Proofs.YtcpfgjfiacfmoaaGreatDoor
open Go Go.AL
attribute [local irreducible] AOps AWp SOps AE AT ACall AApp

abbrev lvcells (ban kick inv red st ev us : Int) (u t : AV) : List AV := [.v (.int .i64 ban), .v (.int .i64 kick), .v (.int .i64 inv), .v (.int .i64 red), .v (.int .i64 st), .v (.int .i64 ev), .v (.int .i64 us), u, t]
abbrev stCells (s : List UInt8) : List AV := lvcells 50 50 0 50 0 0 0 (.sl false [[.s s, .v (.int .i64 100)]]) (.sl false [])
theorem start_c (s : List UInt8) (H : AHeap) (K : AV → AHeap → Prop) (h : K (.agg (stCells s)) H) : ACall X 70 [.s s] H K := by
  refine ACall.drop (ACall.loose ?_)
  refine ACall_intro Tryz.func70 rfl (by kernel_rfl) (by rw [Tryz.ntmps70]; simp) ?_; rw [Tryz.ntmps70]; simp only [frame0, Nat.reduceAdd]
  (refine AWp_seq_k (fun K hK => ?_); apply s_region; apply s_alloc; decide; exact zc_58; intro b hb; apply s_nil; simp only [AThen, ABlock]; refine hK _ _ ?_; clear hK K; refine AWp_seq_k (fun K hK => ?_); apply s_region; (iterate 2 (apply s_q; decide; rfl; (simp only [go_sem, zc_levels]; rfl))); apply s_lit; decide; exact el_56; (simp only [go_sem, zc_levels]; rfl); (simp only [go_sem, zc_levels]; rfl); decide; apply s_q; decide; rfl; (simp only [go_sem, zc_levels]; rfl); apply s_store; (simp only [go_sem, zc_levels]; rfl); (simp only [go_sem, zc_levels]; rfl); (simp only [go_sem, zc_levels]; rfl); apply s_nil; simp only [AThen, ABlock]; refine hK _ _ ?_; clear hK K; apply AWp_ret)
  refine end_ret (av := .agg (lvcells 50 50 0 50 0 0 0 (.sl true [[.s s, .v (.int .i64 100)]]) (.sl true []))) (by show resAV X.P _ _ [.cell 2 58] = _; simp only [go_sem]; try rfl) ⟨H, Ext.fresh (by assumption), ?_⟩
  exact h
theorem parse_some {c : J} {L : Lv} (h : lvParse c = some L) : c.kind = 5 ∧ goodB 12 c = true := by
  unfold lvParse at h
  split at h
  · rename_i h5
    split at h
    · rename_i hg; exact ⟨h5, hg⟩
    · cases h
  · cases h
theorem names_len {j : J} (hf : J.Fit j) (k : List UInt8) : (namesR ((jGet j k).map J.ord)).length ≤ 1000000000 := by
  cases ho : jGet j k with
  | none => simp [namesR]
  | some v =>
    have hv := (fit_eq.1 ((fit_eq.1 hf).2.2.2 v (jGet_mem ho))).1
    have hl : v.ord.keys.length ≤ 1000000000 := by
      rw [ord_eq]; split
      · simp only [J.keys, List.length_map, places_len]; exact hv.1
      · simp [J.keys]
    simp only [Option.map_some, namesR, namesL, List.length_map, List.length_zip]
    omega
theorem parse_len {j : J} (hf : J.Fit j) {l : Lv} (h : lvParse j = some l) : l.Len := by
  obtain ⟨h5, hg⟩ := parse_some h
  rw [lvParse_doc h5 hg] at h
  split at h
  · cases h
    exact ⟨names_len hf _, names_len hf _⟩
  · cases h
theorem lvRes_eq (o : Option Lv) : ∃ (l : Lv) (e : Int), lvRes o = .tup [.agg l.cells, .v (.int .i64 e)] ∧ (e = 0 → o = some l) ∧ (¬ e = 0 → o = none ∧ l = lv0) := by
  cases o with
  | none => exact ⟨lv0, 1, rfl, (fun h => by omega), fun _ => ⟨rfl, rfl⟩⟩
  | some l => exact ⟨l, 0, rfl, fun _ => rfl, fun h => absurd rfl h⟩
theorem start_len (s : List UInt8) : (lvStart s).Len := by simp [lvStart, Lv.Len]
def levN (p : Pa) (i : Nat) : Int := if 0 ≤ leanI p i tPower then (match lvParse (evAt p (leanI p i tPower)).content with | none => 0 | some l => l.user (evAt p i).sender) else if 0 ≤ leanI p i tCreate then (lvStart (evAt p (leanI p i tCreate)).sender).user (evAt p i).sender else 0
def levA (p : Pa) (i : Int) : Int := if (rightB p && inR p.events.length i) = true then levN p i.toNat else 0
abbrev paCells (p : Pa) : List AV := [.sl false (p.names.map strCells), .sl false (p.events.map Ev.cells), .sl false (p.prev.map rowCells), .sl false (p.auth.map rowCells), .sl false (p.denied.map bolCells)]
abbrev jCells (j : J) : List AV := [.v (.int .i64 j.kind), .v (.int .i64 j.int), .s j.text, .sl false (j.keys.map strCells), .sl false (j.list.map J.cells)]
theorem ev_of {p : Pa} {i : Nat} {e : Ev} (h : p.events[i]? = some e) : evAt p i = e := by rw [evAt, Int.toNat_natCast]; exact getD_some h
set_option maxHeartbeats 4000000 in
theorem lev_c (p : Pa) (hw : p.Wide) (hr : p.Right) (hsm : ∀ e ∈ p.events, Sml e.content) (i : Nat) (hi : i < p.events.length) (H : AHeap) (K : AV → AHeap → Prop) (h : K (.v (.int .i64 (levN p i))) H) : ACall X 38 [.agg p.cells, .v (.int .i64 i)] H K := by
  have w2 := hw.ev
  obtain ⟨e, he⟩ := gete hi
  have hge := ev_at he
  have hev := ev_of he
  rw [levN, hev] at h
  have hF : ∀ (kind : List UInt8) (H : AHeap) (K : AV → AHeap → Prop), K (.v (.int .i64 (leanI p i kind))) H → ACall X 67 [.agg (paCells p), .v (.int .i64 i), .s kind] H K := fun kind H K hK => first_c p hw hr i hi kind H K hK
  refine ACall.drop ?_
  rw [Pa.cells]
  refine ACall_intro Tryz.func38 rfl (by kernel_rfl) (by rw [Tryz.ntmps38]; simp) ?_; rw [Tryz.ntmps38]; simp only [frame0, Nat.reduceAdd]
  refine AWp_seq_k (fun K hK => ?_); apply s_region
  apply s_box; decide; exact (by simp only [go_sem]; try rfl); exact (by simp only [go_sem]; try rfl); intro q hq
  generalize hgenq : AHeap.put q _ H = M; obtain ⟨g1, hextq⟩ := gen_ex hgenq hq; have hE := hextq; clear hextq hgenq
  (apply s_q; decide; rfl; (simp only [go_sem, g1, hge]; rfl); apply s_nil; simp only [AThen, ABlock]; refine hK _ _ ?_; clear hK K; refine AWp_seq_k (fun K hK => ?_); apply s_region; (iterate 7 (apply s_q; decide; rfl; (simp only [go_sem, g1, hge]; rfl))); apply s_nil; simp only [AThen, ABlock]; refine hK _ _ ?_; clear hK K; (iterate 2 (refine AWp_seq_k (fun K hK => ?_))); apply s_region; (iterate 2 (apply s_q; decide; rfl; (simp only [go_sem, g1, hge]; rfl))); apply s_call; decide; (simp only [go_sem, g1, hge]; rfl); (simp only [go_sem, g1, hge]; rfl); apply hF tPower; apply s_q; decide; rfl; (simp only [go_sem, g1, hge]; rfl); apply s_nil; simp only [AThen, ABlock]; refine hK _ _ ?_; clear hK K; refine AWp_seq_k (fun K hK => ?_); apply s_region; (iterate 2 (apply s_q; decide; rfl; (simp only [go_sem, g1, hge]; rfl))); apply s_nil; simp only [AThen, ABlock]; refine hK _ _ ?_; clear hK K)
  rcases leanI_lt hr (i := i) (kind := tPower) with e1 | ⟨n, e1, hn, _⟩
  · rw [e1] at h ⊢
    rw [if_neg (by decide)] at h
    refine cond_split (by simp only [go_sem]; try rfl) (fun hc => ?_) (fun hc => ?_)
    · cases hc
    (apply AWp_skip; simp only [AThen, ABlock]; refine hK _ _ ?_; clear hK K; (iterate 2 (refine AWp_seq_k (fun K hK => ?_))); apply s_region; (iterate 2 (apply s_q; decide; rfl; (simp only [go_sem, g1]; rfl))); apply s_call; decide; (simp only [go_sem, g1]; rfl); (simp only [go_sem, g1]; rfl); apply hF tCreate; apply s_q; decide; rfl; (simp only [go_sem, g1]; rfl); apply s_nil; simp only [AThen, ABlock]; refine hK _ _ ?_; clear hK K; refine AWp_seq_k (fun K hK => ?_); apply s_region; (iterate 2 (apply s_q; decide; rfl; (simp only [go_sem, g1]; rfl))); apply s_nil; simp only [AThen, ABlock]; refine hK _ _ ?_; clear hK K)
    rcases leanI_lt hr (i := i) (kind := tCreate) with e2 | ⟨m, e2, hm, _⟩
    · rw [e2] at h ⊢
      rw [if_neg (by decide)] at h
      refine cond_split (by simp only [go_sem]; try rfl) (fun hc => ?_) (fun hc => ?_)
      · cases hc
      (apply AWp_skip; simp only [AThen, ABlock]; refine hK _ _ ?_; clear hK K; refine AWp_seq_k (fun K hK => ?_); apply s_region; apply s_q; decide; rfl; (simp only [go_sem]; rfl); apply s_nil; simp only [AThen, ABlock]; refine hK _ _ ?_; clear hK K; apply AWp_ret)
      exact ⟨H, hE, h⟩
    · rw [e2] at h ⊢
      rw [if_pos (by omega)] at h
      obtain ⟨c, hcm⟩ := gete (l := p.events) (i := m) (by omega)
      have hgc := ev_at hcm
      rw [ev_of hcm] at h
      refine cond_split (by simp only [go_sem]; try rfl) (fun hc => ?_) (fun hc => ?_)
      rotate_left
      · simp at hc <;> omega
      have hU : ∀ (H : AHeap) (K : AV → AHeap → Prop), K (.v (.int .i64 ((lvStart c.sender).user e.sender))) H → ACall X 69 [.agg (stCells c.sender), .s e.sender] H K := fun H K hk => puser_c (lvStart c.sender) (start_len _) _ H K hk
      (refine AWp_seq_k (fun K hK => ?_); apply s_region; (iterate 6 (apply s_q; decide; rfl; (simp only [go_sem, g1, hgc]; rfl))); apply s_call; decide; (simp only [go_sem, g1, hgc]; rfl); (simp only [go_sem, g1, hgc]; rfl); apply start_c; apply s_q; decide; rfl; (simp only [go_sem, g1, hgc]; rfl); apply s_call; decide; (simp only [go_sem, g1, hgc]; rfl); (simp only [go_sem, g1, hgc]; rfl); apply hU; apply s_q; decide; rfl; (simp only [go_sem, g1, hgc]; rfl); apply s_nil; simp only [AThen, ABlock]; refine hK _ _ ?_; clear hK K; apply AWp_ret; simp only [AThen, ABlock]; apply end_ret; rfl; simp only [AFr.get, reduceIte, Nat.reduceEqDiff])
      exact ⟨H, hE, h⟩
  · rw [e1] at h ⊢
    rw [if_pos (by omega)] at h
    obtain ⟨c, hcm⟩ := gete (l := p.events) (i := n) (by omega)
    have hgc := ev_at hcm
    rw [ev_of hcm] at h
    have hsc := hsm c (List.mem_of_getElem? hcm)
    obtain ⟨L, er, hl1, hl2, hl3⟩ := lvRes_eq (lvParse c.content)
    have hP : ∀ (H : AHeap) (K : AV → AHeap → Prop), K (.tup [.agg L.cells, .v (.int .i64 er)]) H → ACall X 68 [.agg (jCells c.content)] H K := fun H K hk => by
      have := parse_c c.content hsc.fit hsc.short H K (by rw [hl1]; exact hk)
      rwa [J.cells_eq] at this
    refine cond_split (by simp only [go_sem]; try rfl) (fun hc => ?_) (fun hc => ?_)
    rotate_left
    · simp at hc <;> omega
    rw [Lv.cells] at hP
    (refine AWp_seq_k (fun K hK => ?_); apply s_region; (iterate 6 (apply s_q; decide; rfl; (simp only [go_sem, g1, hgc]; rfl))); apply s_call; decide; (simp only [go_sem, g1, hgc]; rfl); (simp only [go_sem, g1, hgc]; rfl); apply hP; (iterate 3 (apply s_q; decide; rfl; (simp only [go_sem, g1, hgc]; rfl))); apply s_alloc; decide; exact zc_58; intro b hb; apply s_store; (simp only [go_sem, g1, hgc]; rfl); (simp only [go_sem, g1, hgc]; rfl); (simp only [go_sem, g1, hgc]; rfl); apply s_q; decide; rfl; (simp only [go_sem, g1, hgc]; rfl); apply s_nil; simp only [AThen, ABlock]; refine hK _ _ ?_; clear hK K; (iterate 2 (refine AWp_seq_k (fun K hK => ?_))); apply s_region; (iterate 2 (apply s_q; decide; rfl; (simp only [go_sem, g1, hgc]; rfl))); apply s_nil; simp only [AThen, ABlock]; refine hK _ _ ?_; clear hK K)
    obtain ⟨lb, hnewq⟩ : ∃ q, q = b := ⟨_, rfl⟩; have hlb := hb; rw [← hnewq] at hlb ⊢; clear hb hnewq; try clear he; clear b
    generalize hgenq : AHeap.put lb _ M = M2; obtain ⟨gl, hextq⟩ := gen_ex hgenq hlb; have g1 := hextq _ _ g1; have hE := Ext.trans hE hextq; clear hextq hgenq
    skip
    refine cond_split (by simp only [go_sem]; try rfl) (fun hz => ?_) (fun hz => ?_)
    · have hz : ¬ er = 0 := by simpa using hz
      rw [(hl3 hz).1] at h
      (refine AWp_seq_k (fun K hK => ?_); apply s_region; apply s_q; decide; rfl; (simp only [go_sem]; rfl); apply s_nil; simp only [AThen, ABlock]; refine hK _ _ ?_; clear hK K; apply AWp_ret; simp only [AThen, ABlock]; apply end_ret; rfl; simp only [AFr.get, reduceIte, Nat.reduceEqDiff])
      exact ⟨H, by assumption, h⟩
    · have hz : er = 0 := by simpa using hz
      have hpl := hl2 hz
      rw [hpl] at h
      have hU : ∀ (H : AHeap) (K : AV → AHeap → Prop), K (.v (.int .i64 (L.user e.sender))) H → ACall X 69 [.agg [.v (.int .i64 L.ban), .v (.int .i64 L.kick), .v (.int .i64 L.invite), .v (.int .i64 L.redact), .v (.int .i64 L.state), .v (.int .i64 L.events), .v (.int .i64 L.users), .sl false (L.byUser.map nmCells), .sl false (L.byType.map nmCells)], .s e.sender] H K := fun H K hk => puser_c L (parse_len hsc.fit hpl) _ H K hk
      (apply AWp_skip; simp only [AThen, ABlock]; refine hK _ _ ?_; clear hK K; refine AWp_seq_k (fun K hK => ?_); apply s_region; (iterate 2 (apply s_q; decide; rfl; (simp only [go_sem, gl]; rfl))); apply s_call; decide; (simp only [go_sem, gl]; rfl); (simp only [go_sem, gl]; rfl); apply hU; apply s_q; decide; rfl; (simp only [go_sem, gl]; rfl); apply s_nil; simp only [AThen, ABlock]; refine hK _ _ ?_; clear hK K; apply AWp_ret; simp only [AThen, ABlock]; apply end_ret; rfl; simp only [AFr.get, reduceIte, Nat.reduceEqDiff])
      exact ⟨H, by assumption, h⟩
set_option maxHeartbeats 4000000 in
theorem level12_c (p : Pa) (hw : p.Wide) (hsm : ∀ e ∈ p.events, Sml e.content) (i : Int) (H : AHeap) (K : AV → AHeap → Prop) (h : K (.v (.int .i64 (levA p i))) H) : ACall X 16 [.agg p.cells, .v (.int .i64 i)] H K := by
  refine ACall.drop ?_
  have hR : ∀ (H : AHeap) (K : AV → AHeap → Prop), K (.v (.bool (rightB p))) H → ACall X 25 [.agg (paCells p)] H K := fun H K hK => right_c p hw H K hK
  have hT : ∀ (H : AHeap) (K : AV → AHeap → Prop), K (.v (.bool (inR p.events.length i))) H → ACall X 37 [.agg (paCells p), .v (.int .i64 i)] H K := fun H K hK => there_c p hw i H K hK
  rw [levA] at h
  rw [Pa.cells]
  refine ACall_intro Tryz.func16 rfl (by kernel_rfl) (by rw [Tryz.ntmps16]; simp) ?_; rw [Tryz.ntmps16]; simp only [frame0, Nat.reduceAdd]
  refine AWp_seq_k (fun K hK => ?_); apply s_region
  apply s_box; decide; exact (by simp only [go_sem]; try rfl); exact (by simp only [go_sem]; try rfl); intro q hq
  generalize hgenq : AHeap.put q _ H = M; obtain ⟨g1, hextq⟩ := gen_ex hgenq hq; have hE := hextq; clear hextq hgenq
  (apply s_q; decide; rfl; (simp only [go_sem, g1]; rfl); apply s_nil; simp only [AThen, ABlock]; refine hK _ _ ?_; clear hK K; (iterate 2 (refine AWp_seq_k (fun K hK => ?_))); apply s_region; apply s_q; decide; rfl; (simp only [go_sem, g1]; rfl); apply s_call; decide; (simp only [go_sem, g1]; rfl); (simp only [go_sem, g1]; rfl); apply hR; (iterate 2 (apply s_q; decide; rfl; (simp only [go_sem, g1]; rfl))); (iterate 2 (apply s_spec; decide; rfl; rfl; (simp only [go_sem, g1]; rfl); (simp only [go_sem, g1]; rfl); (simp only [go_sem, g1]; rfl); (simp only [go_sem, g1]; rfl); trivial)); apply s_gpure; decide; (simp only [go_sem, g1]; rfl); (simp only [go_sem, g1]; rfl); (simp only [go_sem, g1]; rfl); simp [condsOk]; (simp only [go_sem, g1]; rfl); (simp only [go_sem, g1]; rfl); (apply hT; exact ⟨rfl, rfl⟩); apply s_spec; decide; rfl; rfl; (simp only [go_sem, g1]; rfl); (simp only [go_sem, g1]; rfl); (simp only [go_sem, g1]; rfl); (simp only [go_sem, g1]; rfl); simp [condsOk]; apply s_pick; decide; (simp only [go_sem, g1]; rfl); (simp only [go_sem, g1]; rfl); (simp only [go_sem, g1]; rfl); (simp only [go_sem, g1]; rfl); (simp only [go_sem, g1]; rfl); (simp only [go_sem, g1]; rfl); trivial; trivial; simp [condsOk]; apply s_nil; simp only [AThen, ABlock]; refine hK _ _ ?_; clear hK K)
  refine cond_split (by simp only [go_sem]; try rfl) (fun hc => ?_) (fun hc => ?_)
  · rw [if_neg (by revert hc; cases rightB p <;> simp)] at h
    (refine AWp_seq_k (fun K hK => ?_); apply s_region; apply s_q; decide; rfl; (simp only [go_sem]; rfl); apply s_nil; simp only [AThen, ABlock]; refine hK _ _ ?_; clear hK K; apply AWp_ret; simp only [AThen, ABlock]; apply end_ret; rfl; simp only [AFr.get, reduceIte, Nat.reduceEqDiff])
    exact ⟨H, hE, h⟩
  · have hb : rightB p = true ∧ inR p.events.length i = true := by revert hc; cases rightB p <;> simp
    rw [hb.1, hb.2] at h
    have hin : 0 ≤ i ∧ i < p.events.length := by simpa [inR] using hb.2
    obtain ⟨n, rfl⟩ : ∃ n : Nat, i = n := ⟨i.toNat, by omega⟩
    have hL : ∀ (H : AHeap) (K : AV → AHeap → Prop), K (.v (.int .i64 (levN p n))) H → ACall X 38 [.agg (paCells p), .v (.int .i64 n)] H K := fun H K hK => lev_c p hw (right_true hb.1) hsm n (by omega) H K hK
    (apply AWp_skip; simp only [AThen, ABlock]; refine hK _ _ ?_; clear hK K; refine AWp_seq_k (fun K hK => ?_); apply s_region; (iterate 2 (apply s_q; decide; rfl; (simp only [go_sem, g1]; rfl))); apply s_call; decide; (simp only [go_sem, g1]; rfl); (simp only [go_sem, g1]; rfl); apply hL; apply s_q; decide; rfl; (simp only [go_sem, g1]; rfl); apply s_nil; simp only [AThen, ABlock]; refine hK _ _ ?_; clear hK K; apply AWp_ret)
    exact ⟨H, hE, h⟩
end Go.Proofs.YtcpfgjfiacfmoaaGreatDoor

set_option linter.unusedSimpArgs false
set_option linter.unusedVariables false
set_option maxRecDepth 100000
namespace Go.Proofs.YtcpfgjfiacfmoaaGreatDoor
open Go Go.AL
attribute [local irreducible] AOps AWp SOps AE AT ACall AApp

def idxS (k : List UInt8) (l : List (List UInt8)) : Int := match l.findIdx? (fun x => decide (x = k)) with | some i => i | none => -1
theorem idxS_at {k : List UInt8} {l : List (List UInt8)} {i : Nat} (h : l[i]? = some k) (hb : ∀ x ∈ l.take i, x ≠ k) : idxS k l = i := by
  have : l.findIdx? (fun x => decide (x = k)) = some i := by
    obtain ⟨hi, he⟩ := List.getElem?_eq_some_iff.1 h
    rw [List.findIdx?_eq_some_iff_getElem]
    refine ⟨hi, by simp [he], fun j hj => ?_⟩
    have := hb l[j] (List.mem_take_iff_getElem.2 ⟨j, by omega, rfl⟩)
    simpa using this
  rw [idxS, this]
theorem idxS_none {k : List UInt8} {l : List (List UInt8)} (hb : ∀ x ∈ l, x ≠ k) : idxS k l = -1 := by
  have : l.findIdx? (fun x => decide (x = k)) = none := by
    rw [List.findIdx?_eq_none_iff]
    intro x hx; simpa using hb x hx
  rw [idxS, this]
theorem indexS_c (t : Bool) (l : List (List UInt8)) (k : List UInt8) (hl : l.length ≤ 4611686018427387904) (H : AHeap) (K : AV → AHeap → Prop) (h : K (.v (.int .i64 (idxS k l))) H) : ACall X 65 [.sl t (l.map strCells), .s k] H K := by
  refine ACall_intro Tryz.func65 rfl (by kernel_rfl) (by rw [Tryz.ntmps65]; simp) ?_; rw [Tryz.ntmps65]; simp only [frame0, Nat.reduceAdd]
  (refine AWp_seq_k (fun K hK => ?_); apply s_region; apply s_q; decide; rfl; (simp only [go_sem]; rfl); apply s_nil; simp only [AThen, ABlock]; refine hK _ _ ?_; clear hK K; (iterate 2 (refine AWp_seq_k (fun K hK => ?_))); apply s_region; (iterate 3 (apply s_q; decide; rfl; (simp only [go_sem]; rfl))); apply s_nil; simp only [AThen, ABlock]; refine hK _ _ ?_; clear hK K; apply AWp_block)
  refine AWp_loop_s (σ := Nat) [0, 1, 7, 8] (fun i => [.sl t (l.map strCells), .s k, .v (.int .i64 l.length), .v (.int .i64 i)]) (fun _ => H) (fun i => l.length - i) (fun i => i ≤ l.length ∧ ∀ x ∈ l.take i, x ≠ k) 0 ⟨Nat.zero_le _, by simp⟩ rfl rfl (fun i hi => ?_)
  simp only [List.zip_cons_cons, List.zip_nil_right]
  (refine AWp_seq_k (fun K hK => ?_); apply s_region; apply s_q; decide; rfl; (simp only [go_sem]; rfl); apply s_nil; simp only [AThen, ABlock]; refine hK _ _ ?_; clear hK K; refine AWp_seq_k (fun K hK => ?_))
  refine cond_split (by simp only [go_sem]; try rfl) (fun hc => ?_) (fun hc => ?_)
  · have hlt : i < l.length := by simpa using hc
    obtain ⟨a, hm⟩ : ∃ a, l[i]? = some a := ⟨_, List.getElem?_eq_getElem hlt⟩
    have hg : (l.map strCells)[i]? = some [.s a] := by rw [List.getElem?_map, hm]; rfl
    (apply AWp_skip; simp only [AThen, ABlock]; refine hK _ _ ?_; clear hK K; refine AWp_seq_k (fun K hK => ?_); apply AWp_block; refine AWp_seq_k (fun K hK => ?_); apply s_region; (iterate 2 (apply s_q; decide; rfl; (simp only [go_sem, hg]; rfl))); apply s_nil; simp only [AThen, ABlock]; refine hK _ _ ?_; clear hK K; refine AWp_seq_k (fun K hK => ?_); apply s_region; (iterate 6 (apply s_q; decide; rfl; (simp only [go_sem, hg]; rfl))); apply s_nil; simp only [AThen, ABlock]; refine hK _ _ ?_; clear hK K)
    refine cond_split (by simp only [go_sem]; try rfl) (fun hd => ?_) (fun hd => ?_)
    · have hk : a = k := by simp at hd; exact hd.symm
      subst hk
      (refine AWp_seq_k (fun K hK => ?_); apply s_region; (iterate 2 (apply s_q; decide; rfl; (simp only [go_sem]; rfl))); apply s_nil; simp only [AThen, ABlock]; refine hK _ _ ?_; clear hK K; apply AWp_ret; simp only [AThen, ABlock]; apply end_ret; rfl; simp only [AFr.get, reduceIte, Nat.reduceEqDiff])
      exact finI h (idxS_at hm hi.2).symm
    · have hk : a ≠ k := fun e => by simp [e] at hd
      (apply AWp_skip; simp only [AThen, ABlock]; refine hK _ _ ?_; clear hK K; apply s_region; (iterate 2 (apply s_q; decide; rfl; (simp only [go_sem]; rfl))); apply s_nil; simp only [AThen, ABlock])
      refine ⟨i + 1, by omega, ⟨by omega, ?_⟩, ?_, by trivial⟩
      · rw [List.take_add_one, hm]
        intro x hx
        rw [List.mem_append] at hx
        rcases hx with hx | hx
        · exact hi.2 x hx
        · simp at hx; subst hx; exact hk
      · simp only [getAll, List.map_cons, List.map_nil, AFr.get]
        rw [wrapS hlt (by omega)]; rfl
  · have hge : l.length ≤ i := by simpa using hc
    (apply AWp_exit; simp only [AThen, ABlock, reduceIte, Nat.reduceEqDiff]; clear hK K; refine hK _ _ ?_; clear hK K; refine AWp_seq_k (fun K hK => ?_); apply s_region; apply s_q; decide; rfl; (simp only [go_sem]; rfl); apply s_nil; simp only [AThen, ABlock]; refine hK _ _ ?_; clear hK K; apply AWp_ret)
    exact finI h (idxS_none (fun x hx => hi.2 x (by rw [List.take_of_length_le hge]; exact hx))).symm
theorem zip_find {k : List UInt8} : ∀ (l : List (List UInt8)) (m : List J), ((l.zip m).find? fun p => decide (p.1 = k)).map (·.2) = match l.findIdx? (fun x => decide (x = k)) with | some i => m[i]? | none => none
  | [], m => by simp
  | a :: l, [] => by
    simp only [List.zip_nil_right, List.find?_nil, Option.map_none]
    split <;> simp
  | a :: l, b :: m => by
    rw [List.zip_cons_cons, List.find?_cons, List.findIdx?_cons]
    by_cases h : a = k
    · simp [h]
    · simp only [h, decide_false, Bool.false_eq_true, ite_false]
      rw [zip_find l m]
      cases l.findIdx? (fun x => decide (x = k)) <;> simp
def kMem : List UInt8 := [109, 101, 109, 98, 101, 114, 115, 104, 105, 112]
def memT (c : J) : List UInt8 := match jGet c kMem with | some v => if v.kind = 3 then v.text else [] | none => []
theorem memT_at {c : J} {i : Nat} {v : J} (hk : c.kind = 5) (h : idxS kMem c.keys = i) (hv : c.list[i]? = some v) : memT c = if v.kind = 3 then v.text else [] := by
  rw [memT, jGet, if_pos hk, zip_find]
  unfold idxS at h
  split at h
  · rename_i j hj
    obtain rfl : j = i := by omega
    simp only [hv]
  · omega
theorem memT_no {c : J} (h : ¬ (0 ≤ idxS kMem c.keys ∧ idxS kMem c.keys < c.list.length)) : memT c = [] := by
  rw [memT, jGet]
  split
  · rename_i v hv
    split at hv
    · rw [zip_find] at hv
      unfold idxS at h
      split at h
      · rename_i j hj
        rw [hj] at hv
        have := (List.getElem?_eq_some_iff.1 hv).1
        omega
      · rename_i hj
        rw [hj] at hv; cases hv
    · cases hv
  · rfl
theorem memT_kind {c : J} (h : c.kind ≠ 5) : memT c = [] := by rw [memT, jGet, if_neg h]
theorem idxS_cases (k : List UInt8) (l : List (List UInt8)) : idxS k l = -1 ∨ ∃ i : Nat, idxS k l = i := by
  unfold idxS
  split
  · exact .inr ⟨_, rfl⟩
  · exact .inl rfl
theorem finS {K : AV → AHeap → Prop} {H : AHeap} {a b : List UInt8} (h : K (.s a) H) (e : b = a) : K (.s b) H := e ▸ h
theorem mship_c (e : Ev) (hw : e.Wide) (H : AHeap) (K : AV → AHeap → Prop) (h : K (.s (memT e.content)) H) : ACall X 33 [.agg e.cells] H K := by
  obtain ⟨l1, l2, l3⟩ := J.len_eq.1 hw.1
  have hI : ∀ (H : AHeap) (K : AV → AHeap → Prop), K (.v (.int .i64 (idxS kMem e.content.keys))) H → ACall X 65 [.sl false (e.content.keys.map strCells), .s kMem] H K := fun H K hk => indexS_c false _ _ (by omega) H K hk
  refine ACall.drop ?_
  rw [Ev.cells]
  refine ACall_intro Tryz.func33 rfl (by kernel_rfl) (by rw [Tryz.ntmps33]; simp) ?_; rw [Tryz.ntmps33]; simp only [frame0, Nat.reduceAdd]
  refine AWp_seq_k (fun K hK => ?_); apply s_region
  apply s_box; decide; exact (by simp only [go_sem]; try rfl); exact (by simp only [go_sem]; try rfl); intro p hp
  generalize hgenq : AHeap.put p _ H = M; obtain ⟨g1, hextq⟩ := gen_ex hgenq hp; have hE := hextq; clear hextq hgenq
  (apply s_q; decide; rfl; (simp only [go_sem, g1]; rfl); apply s_nil; simp only [AThen, ABlock]; refine hK _ _ ?_; clear hK K; refine AWp_seq_k (fun K hK => ?_); apply s_region; (iterate 3 (apply s_q; decide; rfl; (simp only [go_sem, g1]; rfl))); apply s_call; decide; (simp only [go_sem, g1]; rfl); (simp only [go_sem, g1]; rfl); apply hI; apply s_q; decide; rfl; (simp only [go_sem, g1]; rfl); apply s_nil; simp only [AThen, ABlock]; refine hK _ _ ?_; clear hK K; (iterate 2 (refine AWp_seq_k (fun K hK => ?_))); apply s_region; (iterate 5 (apply s_q; decide; rfl; (simp only [go_sem, g1]; rfl))); apply s_spec; decide; rfl; rfl; (simp only [go_sem, g1]; rfl); (simp only [go_sem, g1]; rfl); (simp only [go_sem, g1]; rfl); (simp only [go_sem, g1]; rfl); trivial; apply s_spec; decide; rfl; rfl; (simp only [go_sem, g1]; rfl); (simp only [go_sem, g1]; rfl); (simp only [go_sem, g1]; rfl); (simp only [go_sem, g1]; rfl); simp [condsOk]; apply s_pick; decide; (simp only [go_sem, g1]; rfl); (simp only [go_sem, g1]; rfl); (simp only [go_sem, g1]; rfl); (simp only [go_sem, g1]; rfl); (simp only [go_sem, g1]; rfl); (simp only [go_sem, g1]; rfl); trivial; trivial; simp [condsOk]; apply s_q; decide; rfl; (simp only [go_sem, g1]; rfl); (iterate 2 (apply s_spec; decide; rfl; rfl; (simp only [go_sem, g1]; rfl); (simp only [go_sem, g1]; rfl); (simp only [go_sem, g1]; rfl); (simp only [go_sem, g1]; rfl); trivial)); (iterate 4 (apply s_spec; decide; rfl; rfl; (simp only [go_sem, g1]; rfl); (simp only [go_sem, g1]; rfl); (simp only [go_sem, g1]; rfl); (simp only [go_sem, g1]; rfl); simp [condsOk])); apply s_pick; decide; (simp only [go_sem, g1]; rfl); (simp only [go_sem, g1]; rfl); (simp only [go_sem, g1]; rfl); (simp only [go_sem, g1]; rfl); (simp only [go_sem, g1]; rfl); (simp only [go_sem, g1]; rfl); trivial; trivial; simp [condsOk]; apply s_q; decide; rfl; (simp only [go_sem, g1]; rfl); apply s_spec; decide; rfl; rfl; (simp only [go_sem, g1]; rfl); (simp only [go_sem, g1]; rfl); (simp only [go_sem, g1]; rfl); (simp only [go_sem, g1]; rfl); trivial; (iterate 2 (apply s_spec; decide; rfl; rfl; (simp only [go_sem, g1]; rfl); (simp only [go_sem, g1]; rfl); (simp only [go_sem, g1]; rfl); (simp only [go_sem, g1]; rfl); simp [condsOk])); apply s_spec; decide; rfl; rfl; (simp only [go_sem, g1]; rfl); (simp only [go_sem, g1]; rfl); (simp only [go_sem, g1]; rfl); (simp only [go_sem, g1]; rfl); trivial)
  by_cases hin : 0 ≤ idxS kMem e.content.keys ∧ idxS kMem e.content.keys < e.content.list.length
  · rcases idxS_cases kMem e.content.keys with hi | ⟨i, hi⟩
    · omega
    rw [hi] at hin ⊢
    obtain ⟨v, hv⟩ := gete (l := e.content.list) (i := i) (by omega)
    have hgv := eget_at hv
    (apply s_when; decide; (simp only [go_sem, g1, hgv]; rfl); (simp only [go_sem, g1, hgv]; rfl); (simp only [go_sem, g1, hgv]; rfl); simp [condsOk]; (intro hg; (focus (simp only [go_sem, g1, hgv]; (try rfl); done))); (iterate 3 (apply s_spec; decide; rfl; rfl; (simp only [go_sem, g1, hgv]; rfl); (simp only [go_sem, g1, hgv]; rfl); (simp only [go_sem, g1, hgv]; rfl); (simp only [go_sem, g1, hgv]; rfl); simp [condsOk])); apply s_pick; decide; (simp only [go_sem, g1, hgv]; rfl); (simp only [go_sem, g1, hgv]; rfl); (simp only [go_sem, g1, hgv]; rfl); (simp only [go_sem, g1, hgv]; rfl); (simp only [go_sem, g1, hgv]; rfl); (simp only [go_sem, g1, hgv]; rfl); trivial; trivial; simp [condsOk]; apply s_nil; simp only [AThen, ABlock]; refine hK _ _ ?_; clear hK K)
    refine cond_split (by simp only [go_sem]; try rfl) (fun hc => ?_) (fun hc => ?_)
    · (refine AWp_seq_k (fun K hK => ?_); apply s_region; apply s_q; decide; rfl; (simp only [go_sem]; rfl); apply s_nil; simp only [AThen, ABlock]; refine hK _ _ ?_; clear hK K; apply AWp_ret; simp only [AThen, ABlock]; apply end_ret; rfl; simp only [AFr.get, reduceIte, Nat.reduceEqDiff])
      refine ⟨H, hE, finS h ?_⟩
      by_cases hk : e.content.kind = 5
      · rw [memT_at hk hi hv, if_neg]
        intro h3
        simp [hk, h3] at hc
        omega
      · rw [memT_kind hk]
    · (apply AWp_skip; simp only [AThen, ABlock]; refine hK _ _ ?_; clear hK K; refine AWp_seq_k (fun K hK => ?_); apply s_region; (iterate 8 (apply s_q; decide; rfl; (simp only [go_sem, g1, hgv]; rfl))); apply s_nil; simp only [AThen, ABlock]; refine hK _ _ ?_; clear hK K; apply AWp_ret)
      refine ⟨H, hE, finS h ?_⟩
      have h5 : e.content.kind = 5 ∧ v.kind = 3 := by
        by_cases hk : e.content.kind = 5 <;> by_cases h3 : v.kind = 3 <;> simp_all
      rw [memT_at h5.1 hi hv, if_pos h5.2]
  · rw [memT_no hin] at h
    generalize idxS kMem e.content.keys = i at hin
    ((iterate 4 (apply s_when (av := (.v (.bool false))); decide; (simp only [go_sem, g1]; rfl); (simp only [go_sem, g1]; rfl); (simp only [go_sem, g1]; rfl); simp [condsOk]; (focus (intro hg; first | (cases hg; done) | (simp at hg; done) | (simp at hg; omega))))); apply s_pick; decide; (simp only [go_sem, g1]; rfl); (simp only [go_sem, g1]; rfl); (simp only [go_sem, g1]; rfl); (simp only [go_sem, g1]; rfl); (simp only [go_sem, g1]; rfl); (simp only [go_sem, g1]; rfl); trivial; trivial; simp [condsOk]; apply s_nil; simp only [AThen, ABlock]; refine hK _ _ ?_; clear hK K)
    refine cond_split (by simp only [go_sem]; try rfl) (fun hc => ?_) (fun hc => ?_)
    · (refine AWp_seq_k (fun K hK => ?_); apply s_region; apply s_q; decide; rfl; (simp only [go_sem]; rfl); apply s_nil; simp only [AThen, ABlock]; refine hK _ _ ?_; clear hK K; apply AWp_ret; simp only [AThen, ABlock]; apply end_ret; rfl; simp only [AFr.get, reduceIte, Nat.reduceEqDiff])
      exact ⟨H, hE, h⟩
    · exfalso
      simp at hc
      omega
def tMem : List UInt8 := [109, 46, 114, 111, 111, 109, 46, 109, 101, 109, 98, 101, 114]
def powB (e : Ev) : Bool := e.isState && if e.type = tMem then !decide (e.key = e.sender) && (decide (memT e.content = [108, 101, 97, 118, 101]) || decide (memT e.content = [98, 97, 110])) else decide (e.key = []) && (decide (e.type = tPower) || decide (e.type = [109, 46, 114, 111, 111, 109, 46, 106, 111, 105, 110, 95, 114, 117, 108, 101, 115]))
set_option maxHeartbeats 2000000 in
theorem powers_c (e : Ev) (hw : e.Wide) (H : AHeap) (K : AV → AHeap → Prop) (h : K (.v (.bool (powB e))) H) : ACall X 12 [.agg e.cells] H K := by
  have hM : ∀ (H : AHeap) (K : AV → AHeap → Prop), K (.s (memT e.content)) H → ACall X 33 [.agg e.cells] H K := fun H K hk => mship_c e hw H K hk
  refine ACall.drop ?_
  rw [Ev.cells] at hM ⊢
  refine ACall_intro Tryz.func12 rfl (by kernel_rfl) (by rw [Tryz.ntmps12]; simp) ?_; rw [Tryz.ntmps12]; simp only [frame0, Nat.reduceAdd]
  refine AWp_seq_k (fun K hK => ?_); apply s_region
  apply s_box; decide; exact (by simp only [go_sem]; try rfl); exact (by simp only [go_sem]; try rfl); intro p hp
  generalize hgenq : AHeap.put p _ H = M; obtain ⟨g1, hextq⟩ := gen_ex hgenq hp; have hE := hextq; clear hextq hgenq
  (apply s_q; decide; rfl; (simp only [go_sem, g1]; rfl); apply s_nil; simp only [AThen, ABlock]; refine hK _ _ ?_; clear hK K; refine AWp_seq_k (fun K hK => ?_); apply AWp_block; refine AWp_seq_k (fun K hK => ?_); apply s_region; (iterate 4 (apply s_q; decide; rfl; (simp only [go_sem, g1]; rfl))); apply s_nil; simp only [AThen, ABlock]; refine hK _ _ ?_; clear hK K)
  refine cond_split (by simp only [go_sem]; try rfl) (fun hs => ?_) (fun hs => ?_)
  · (refine AWp_seq_k (fun K hK => ?_); apply s_region; apply s_q; decide; rfl; (simp only [go_sem]; rfl); apply s_nil; simp only [AThen, ABlock]; refine hK _ _ ?_; clear hK K; apply AWp_ret; simp only [AThen, ABlock]; apply end_ret; rfl; simp only [AFr.get, reduceIte, Nat.reduceEqDiff])
    refine ⟨H, hE, finB h ?_⟩
    simp at hs
    simp [powB, hs]
  have hs : e.isState = true := by simpa using hs
  (refine AWp_seq_k (fun K hK => ?_); apply s_region; (iterate 4 (apply s_q; decide; rfl; (simp only [go_sem, g1]; rfl))); apply s_nil; simp only [AThen, ABlock]; refine hK _ _ ?_; clear hK K)
  refine cond_split (by simp only [go_sem]; try rfl) (fun ht => ?_) (fun ht => ?_)
  · have ht : e.type = tMem := by simpa [tMem] using ht
    (refine AWp_seq_k (fun K hK => ?_); apply s_region; apply s_q; decide; rfl; (simp only [go_sem, g1]; rfl); apply s_call; decide; (simp only [go_sem, g1]; rfl); (simp only [go_sem, g1]; rfl); apply hM; apply s_q; decide; rfl; (simp only [go_sem, g1]; rfl); apply s_nil; simp only [AThen, ABlock]; refine hK _ _ ?_; clear hK K; refine AWp_seq_k (fun K hK => ?_); apply s_region; (iterate 6 (apply s_q; decide; rfl; (simp only [go_sem, g1]; rfl))); apply s_spec; decide; rfl; rfl; (simp only [go_sem, g1]; rfl); (simp only [go_sem, g1]; rfl); (simp only [go_sem, g1]; rfl); (simp only [go_sem, g1]; rfl); trivial; (iterate 2 (apply s_spec; decide; rfl; rfl; (simp only [go_sem, g1]; rfl); (simp only [go_sem, g1]; rfl); (simp only [go_sem, g1]; rfl); (simp only [go_sem, g1]; rfl); simp [condsOk])); apply s_spec; decide; rfl; rfl; (simp only [go_sem, g1]; rfl); (simp only [go_sem, g1]; rfl); (simp only [go_sem, g1]; rfl); (simp only [go_sem, g1]; rfl); trivial; apply s_spec; decide; rfl; rfl; (simp only [go_sem, g1]; rfl); (simp only [go_sem, g1]; rfl); (simp only [go_sem, g1]; rfl); (simp only [go_sem, g1]; rfl); simp [condsOk]; apply s_pickg; decide; (simp only [go_sem, g1]; rfl); (simp only [go_sem, g1]; rfl); (simp only [go_sem, g1]; rfl); (simp only [go_sem, g1]; rfl); (simp only [go_sem, g1]; rfl); (simp only [go_sem, g1]; rfl); (simp only [go_sem, g1]; rfl); (simp only [go_sem, g1]; rfl); simp [condsOk]; trivial; simp [condsOk]; apply s_pick; decide; (simp only [go_sem, g1]; rfl); (simp only [go_sem, g1]; rfl); (simp only [go_sem, g1]; rfl); (simp only [go_sem, g1]; rfl); (simp only [go_sem, g1]; rfl); (simp only [go_sem, g1]; rfl); trivial; simp [condsOk]; trivial; apply s_q; decide; rfl; (simp only [go_sem, g1]; rfl); apply s_nil; simp only [AThen, ABlock]; refine hK _ _ ?_; clear hK K; apply AWp_ret; simp only [AThen, ABlock]; apply end_ret; rfl; simp only [AFr.get, reduceIte, Nat.reduceEqDiff])
    refine ⟨H, hE, finB h ?_⟩
    simp [powB, hs, ht]
  · have ht : ¬ e.type = tMem := by simpa [tMem] using ht
    (apply AWp_skip; simp only [AThen, ABlock]; refine hK _ _ ?_; clear hK K; refine AWp_seq_k (fun K hK => ?_); apply s_region; (iterate 4 (apply s_q; decide; rfl; (simp only [go_sem, g1]; rfl))); apply s_spec; decide; rfl; rfl; (simp only [go_sem, g1]; rfl); (simp only [go_sem, g1]; rfl); (simp only [go_sem, g1]; rfl); (simp only [go_sem, g1]; rfl); trivial; (iterate 3 (apply s_spec; decide; rfl; rfl; (simp only [go_sem, g1]; rfl); (simp only [go_sem, g1]; rfl); (simp only [go_sem, g1]; rfl); (simp only [go_sem, g1]; rfl); simp [condsOk])); apply s_spec; decide; rfl; rfl; (simp only [go_sem, g1]; rfl); (simp only [go_sem, g1]; rfl); (simp only [go_sem, g1]; rfl); (simp only [go_sem, g1]; rfl); trivial; (iterate 2 (apply s_spec; decide; rfl; rfl; (simp only [go_sem, g1]; rfl); (simp only [go_sem, g1]; rfl); (simp only [go_sem, g1]; rfl); (simp only [go_sem, g1]; rfl); simp [condsOk])); apply s_pickg; decide; (simp only [go_sem, g1]; rfl); (simp only [go_sem, g1]; rfl); (simp only [go_sem, g1]; rfl); (simp only [go_sem, g1]; rfl); (simp only [go_sem, g1]; rfl); (simp only [go_sem, g1]; rfl); (simp only [go_sem, g1]; rfl); (simp only [go_sem, g1]; rfl); simp [condsOk]; trivial; simp [condsOk]; apply s_pick; decide; (simp only [go_sem, g1]; rfl); (simp only [go_sem, g1]; rfl); (simp only [go_sem, g1]; rfl); (simp only [go_sem, g1]; rfl); (simp only [go_sem, g1]; rfl); (simp only [go_sem, g1]; rfl); trivial; simp [condsOk]; trivial; apply s_q; decide; rfl; (simp only [go_sem, g1]; rfl); apply s_nil; simp only [AThen, ABlock]; refine hK _ _ ?_; clear hK K; apply AWp_ret)
    refine ⟨H, hE, finB h ?_⟩
    simp only [powB, hs, if_neg ht, tPower, Bool.true_and]
    by_cases h1 : e.key = [] <;> simp [h1] <;> congr
end Go.Proofs.YtcpfgjfiacfmoaaGreatDoor
