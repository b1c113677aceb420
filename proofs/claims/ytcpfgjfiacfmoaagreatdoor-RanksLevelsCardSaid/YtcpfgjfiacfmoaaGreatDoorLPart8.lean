/-
  The document's order: order, Order. Contracts.
-/
import Derived.Test.YtcpfgjfiacfmoaaGreatDoorLPart7
import Derived.Test.YtcpfgjfiacfmoaaGreatDoorLAL4
set_option linter.unusedSimpArgs false
set_option linter.unusedVariables false
set_option maxRecDepth 100000
namespace Go.Proofs.YtcpfgjfiacfmoaaGreatDoor
open Go Go.AL
attribute [local irreducible] AOps AWp SOps AE AT ACall AApp

theorem pl_nodup (ks : List (List UInt8)) : (placesOf ks).Nodup := (places_perm ks).nodup_iff.2 List.nodup_range
theorem pl_mem {ks : List (List UInt8)} {i : Nat} (h : i < ks.length) : i ∈ placesOf ks := (places_perm ks).mem_iff.2 (List.mem_range.2 h)
theorem place_min {ks : List (List UInt8)} (hn : ks.Nodup) {n b : Nat} (hlt : n < ks.length) (hb : b < ks.length) (hbn : b ∉ (placesOf ks).take n) (hmin : ∀ k, k < ks.length → k ∉ (placesOf ks).take n → ks.getD b [] ≤ ks.getD k []) : (placesOf ks)[n]? = some b := by
  have hl := places_len ks
  have hbm := pl_mem hb
  obtain ⟨m, hm, he⟩ := List.mem_iff_getElem.1 hbm
  have hnm : n ≤ m := by
    rcases Nat.lt_or_ge m n with h | h
    · exact absurd (List.mem_take_iff_getElem.2 ⟨m, by omega, he⟩) hbn
    · exact h
  obtain ⟨a, ha⟩ := gete (l := placesOf ks) (i := n) (by omega)
  have ham := List.mem_of_getElem? ha
  have han : a ∉ (placesOf ks).take n := fun h => by
    obtain ⟨k, hk, hke⟩ := List.mem_take_iff_getElem.1 h
    have h2 := (List.getElem?_eq_some_iff.1 ha)
    obtain ⟨h3, h4⟩ := h2
    have := (List.getElem_inj (pl_nodup ks)).1 (hke.trans h4.symm)
    omega
  have h1 := hmin a (places_lt ham) han
  have h2 : ks.getD a [] ≤ ks.getD b [] := by
    rcases Nat.lt_or_eq_of_le hnm with h | h
    · have hp := places_sorted ks
      rw [List.pairwise_iff_getElem] at hp
      have := hp n m (by omega) hm h
      rw [he] at this
      rw [(List.getElem?_eq_some_iff.1 ha).2] at this
      exact this
    · subst h
      rw [List.getElem?_eq_getElem hm, he] at ha
      cases ha
      exact List.le_refl _
  have := nodup_getD hn (places_lt ham) hb (List.le_antisymm h2 h1)
  rw [ha, this]
theorem _root_.Go.AL.RowAt.set {e sz e' sz' c : Nat} {sn : Bool} {es0 : List (List AV)} {H0 L : AHeap} {es : List (List AV)} {a : AV} (h : RowAt e sz H0 L es a) (hc : L.get c = some (.row e' sz' sn es0)) (o' : AObj) (he : e ≠ e') : RowAt e sz H0 (L.put c o') es a := by
  rcases h with h | ⟨b, h1, h2, h3⟩
  · exact .inl h
  · refine .inr ⟨b, h1, h2, ?_⟩
    rw [AHeap.get_put]
    split
    · rename_i e1; subst e1; rw [hc] at h3; cases h3; exact absurd rfl he
    · exact h3
def boolCells (b : Bool) : List AV := [.v (.bool b)]
abbrev doneRow (ks : List (List UInt8)) (n : Nat) : AObj := .row 4 1 false ((List.range ks.length).map fun k => boolCells (decide (k ∈ (placesOf ks).take n)))
def lstI : Option Nat → Int
  | none => -1
  | some b => (b : Int)
def lstOk (ks : List (List UInt8)) (m i : Nat) : Option Nat → Prop
  | none => ∀ k, k < i → k ∈ (placesOf ks).take m
  | some b => b < i ∧ b ∉ (placesOf ks).take m ∧ ∀ k, k < i → k ∉ (placesOf ks).take m → ks.getD b [] ≤ ks.getD k []
set_option maxHeartbeats 8000000 in
theorem rorder_c : ∀ (n : Nat) (j : J), goodB n j = true → J.Fit j → ∀ (H : AHeap) (Kc : AV → AHeap → Prop), Kc (.agg j.ord.cells) H → ACall X 141 [.agg j.cells] H Kc := fun n => by
  induction n with
  | zero => intro j h; cases h
  | succ n ih =>
  intro j hg hf H Kc h
  obtain ⟨⟨f1, f1'⟩, f2, f3, f4⟩ := fit_eq.1 hf
  have hsh := good_shaped hg
  have hch : ∀ x ∈ j.list, goodB n x = true := by
    simp only [goodB, Bool.and_eq_true, List.all_eq_true] at hg; exact hg.2
  refine ACall.post ?_
  rw [J.cells_eq]
  refine ACall_intro Tryz.func141 rfl (by kernel_rfl) (by rw [Tryz.ntmps141]; simp) ?_; rw [Tryz.ntmps141]; simp only [frame0, Nat.reduceAdd]
  apply sR; intro K hK
  apply s_box; decide; exact (by simp only [go_sem]; try rfl); exact (by simp only [go_sem]; try rfl); intro p hp
  apply s_alloc; decide; exact zc_json; intro r hr
  refine s_nil (hK _ _ ?_); clear hK K
  have g1 := get_fresh (AHeap.get_put_same p (jbox j.kind j.int j.text (.sl false (j.keys.map strCells)) (.sl false (j.list.map J.cells))) H) hr (x := jbox 0 0 [] (.sl true []) (.sl true []))
  have g2 := AHeap.get_put_same r (jbox 0 0 [] (.sl true []) (.sl true [])) (H.put p (jbox j.kind j.int j.text (.sl false (j.keys.map strCells)) (.sl false (j.list.map J.cells))))
  have g3 := (Ext.fresh hp (o := jbox j.kind j.int j.text (.sl false (j.keys.map strCells)) (.sl false (j.list.map J.cells)))).put hr (ob := jbox 0 0 [] (.sl true []) (.sl true []))
  have hHr : H.get r = none := none_fresh hr
  generalize (H.put p (jbox j.kind j.int j.text (.sl false (j.keys.map strCells)) (.sl false (j.list.map J.cells)))).put r (jbox 0 0 [] (.sl true []) (.sl true [])) = M at g1 g2 g3 ⊢
  apply sR; intro K hK
  ((iterate 7 (apply s_q; decide; rfl; (simp only [go_sem, g1]; rfl))); apply s_alloc; decide; exact zc_25; intro b hb; apply s_store; (iterate 3 (simp only [go_sem, g1]; rfl)))
  refine s_nil (hK _ _ ?_); clear hK K
  obtain ⟨o, hoe⟩ : ∃ b3, b3 = b := ⟨_, rfl⟩
  have ho := hb
  rw [← hoe] at ho ⊢
  clear hb hoe b
  have k1 := get_fresh g1 ho (x := jbox j.kind j.int j.text (.sl true []) (.sl true []))
  have k2 := get_fresh g2 ho (x := jbox j.kind j.int j.text (.sl true []) (.sl true []))
  have k3 := AHeap.get_put_same o (jbox j.kind j.int j.text (.sl true []) (.sl true [])) M
  have k4 := g3.put ho (ob := jbox j.kind j.int j.text (.sl true []) (.sl true []))
  have hHo : H.get o = none := none_of_ext g3 ho
  have hpo := get_ne_fresh g1 ho
  have hro := get_ne_fresh g2 ho
  generalize M.put o (jbox j.kind j.int j.text (.sl true []) (.sl true [])) = M2 at k1 k2 k3 k4 ⊢
  clear g1 g2 g3 ho M
  refine AWp_seq_k (fun K0 hK0 => ?_)
  have hgo : ∀ (ys : List J) (c : AV) (L : AHeap), (j.keys = [] → j.ord = .mk j.kind j.int j.text [] ys) → (¬ j.keys = [] → j.kind = 5 ∧ ys = []) → ys.length ≤ 1000000000 → Ext H L → L.get p = some (jbox j.kind j.int j.text (.sl false (j.keys.map strCells)) (.sl false (j.list.map J.cells))) → L.get r = some (jbox 0 0 [] (.sl true []) (.sl true [])) →
      L.get o = some (jbox j.kind j.int j.text (.sl true []) c) → RowAt 25 5 H L (ys.map J.cells) c → ∀ fr, getAll [1, 2, 3] fr = [ptrTo p, ptrTo r, ptrTo o] → K0 fr L := fun ys c L hnil hcons hys hE hpL hrL hoL hR fr hfr => by
    refine hK0 _ _ (AWp_cut _ hfr ?_)
    simp only [List.zip_cons_cons, List.zip_nil_right]
    clear k1 k2 k3 k4 hK0
    have hll : (j.keys.map strCells).length = j.keys.length := List.length_map ..
    obtain ⟨N, hN⟩ : ∃ N, N = j.keys.length := ⟨_, rfl⟩
    apply sR; intro K hK
    ((iterate 3 (apply s_q; decide; rfl; (simp only [go_sem, hpL]; rfl))))
    rw [← hN]
    apply s_make; decide; exact el_33; exact (by simp only [go_sem]; try rfl); exact (by simp only [go_sem]; try rfl); exact zc_4; (refine ⟨by omega, by omega, by decide⟩); intro q hq
    have hHq : H.get q = none := none_of_ext hE hq
    have hpq := get_ne_fresh hpL hq
    have hrq := get_ne_fresh hrL hq
    have hoq := get_ne_fresh hoL hq
    generalize hgenq : AHeap.put q _ L = L0
    obtain ⟨hqL0, hextq⟩ := gen_ex hgenq hq
    have hpL0 := hextq _ _ hpL
    have hrL0 := hextq _ _ hrL
    have hoL0 := hextq _ _ hoL
    have hE0 := hE.trans hextq
    have hR0 := hR.ext hextq
    rw [Int.toNat_natCast, range_const] at hqL0
    clear hextq hgenq hpL hrL hoL hE hR hq
    (refine qr ?_; refine s_nil (hK _ _ ?_); clear hK K; apply sK; intro K hK; apply sR; intro K hK; refine qr ?_; refine s_nil (hK _ _ ?_); clear hK K; apply AWp_block)
    have hpll := places_len j.keys
    have hconv : (∀ i, i < j.keys.length → j.kind = 5) := fun i hi => (hcons (by rintro h; rw [h] at hi; cases hi)).1
    have hys2 : (∀ i, i < j.keys.length → ys = []) := fun i hi => (hcons (by rintro h; rw [h] at hi; cases hi)).2
    refine AWp_loop_s (σ := Nat × AV × AV × AHeap) [1, 2, 3, 5, 6] (fun s => [ptrTo p, ptrTo r, ptrTo o, .row q 1 N, .v (.int .i64 ((s.1 : Nat) : Int))]) (fun s => s.2.2.2) (fun s => N - s.1)
      (fun s => s.1 ≤ N ∧ Ext H s.2.2.2 ∧ s.2.2.2.get p = some (jbox j.kind j.int j.text (.sl false (j.keys.map strCells)) (.sl false (j.list.map J.cells))) ∧ s.2.2.2.get r = some (jbox 0 0 [] (.sl true []) (.sl true [])) ∧ s.2.2.2.get o = some (jbox j.kind j.int j.text s.2.1 s.2.2.1) ∧
        s.2.2.2.get q = some (doneRow j.keys s.1) ∧ RowAt 9 1 H s.2.2.2 ((((placesOf j.keys).take s.1).map fun i => j.keys.getD i []).map strCells) s.2.1 ∧ RowAt 25 5 H s.2.2.2 ((ys ++ ((placesOf j.keys).take s.1).map fun i => (j.list.map J.ord).getD i (.mk 0 0 [] [] [])).map J.cells) s.2.2.1)
      (0, .sl true [], c, L0) ⟨Nat.zero_le _, hE0, hpL0, hrL0, hoL0, ?_, RowAt.nil _ _ _ _, by simpa using hR0⟩ rfl rfl (fun s hs => ?_)
    · rw [hqL0, hN]
      simp only [doneRow, List.take_zero, List.not_mem_nil, decide_false, boolCells]
    obtain ⟨m, a, c, L⟩ := s
    obtain ⟨hm, hE, hpL, hrL, hoL, hqL, hRa, hRc⟩ := hs
    clear hpL0 hrL0 hoL0 hE0 hR0 hqL0
    simp only [List.zip_cons_cons, List.zip_nil_right] at hm hE hpL hrL hoL hqL hRa hRc ⊢
    (apply sK; intro K hK; apply sR; intro K hK; (iterate 5 (apply s_q; decide; rfl; (simp only [go_sem, hpL]; rfl))); refine s_nil (hK _ _ ?_); clear hK K)
    refine cs (fun hd => ?_) (fun hd => ?_)
    · have hlt : m < N := by simp at hd; omega
      have h5 := hconv 0 (by omega)
      obtain rfl := hys2 0 (by omega)
      obtain ⟨s1, s2, s3⟩ := shaped_map hsh h5
      simp only [List.nil_append] at hRc
      (refine AWp_skip (hK _ _ ?_); clear hK K; apply sK; intro K hK; apply AWp_block; apply sR; intro K hK; refine qr ?_; refine s_nil (hK _ _ ?_); clear hK K; apply sK; intro K hK; apply sR; intro K hK; refine qr ?_; refine s_nil (hK _ _ ?_); clear hK K; apply AWp_block)
      refine AWp_loop_s (σ := Nat × Option Nat) [1, 2, 3, 5, 6, 7, 8] (fun s => [ptrTo p, ptrTo r, ptrTo o, .row q 1 N, .v (.int .i64 ((m : Nat) : Int)), .v (.int .i64 (lstI s.2)), .v (.int .i64 ((s.1 : Nat) : Int))]) (fun _ => L) (fun s => N - s.1)
        (fun s => s.1 ≤ N ∧ lstOk j.keys m s.1 s.2) (0, none) ⟨Nat.zero_le _, fun k hk => absurd hk (Nat.not_lt_zero k)⟩ rfl rfl (fun s hs => ?_)
      obtain ⟨i, w⟩ := s
      obtain ⟨hi, hw⟩ := hs
      simp only [List.zip_cons_cons, List.zip_nil_right] at hi hw ⊢
      (apply sK; intro K hK; apply sR; intro K hK; (iterate 5 (apply s_q; decide; rfl; (simp only [go_sem, hpL]; rfl))); refine s_nil (hK _ _ ?_); clear hK K)
      refine cs (fun he => ?_) (fun he => ?_)
      · have hli : i < N := by simp at he; omega
        have hgq : ((List.range j.keys.length).map fun k => boolCells (decide (k ∈ (placesOf j.keys).take m)))[i]? = some [.v (.bool (decide (i ∈ (placesOf j.keys).take m)))] := get_range (fun k => boolCells (decide (k ∈ (placesOf j.keys).take m))) (by omega)
        obtain ⟨ky, hky⟩ := gete (l := j.keys) (i := i) (by omega)
        have hgk := jstr_at hky
        have hkd : j.keys.getD i [] = ky := by rw [List.getD_eq_getElem?_getD, hky]; rfl
        have hlN : ((i : Int) < (N : Int)) = True := by simp; omega
        by_cases hD : i ∈ (placesOf j.keys).take m
        · rw [decide_eq_true hD] at hgq
          (refine AWp_skip (hK _ _ ?_); clear hK K; apply sK; intro K hK; apply AWp_block; apply sK; intro K hK)
          apply AWp_drawA [0, 1, 2, 3, 4, 5, 6, 7, 8, 9, 10, 11, 12, 13, 14, 15, 16, 17, 18, 19, 20, 21] [] 0 (by exact mixed); kernel_rfl; (iterate 2 (simp only [go_sem]; rfl))
          ((iterate 6 (apply e_q; decide; (simp only [go_sem, hqL, hgq, hlN]; rfl))); (iterate 4 (apply e_spec; decide; (iterate 4 (simp only [go_sem, hqL, hgq, hlN]; rfl)); trivial)); apply e_when (av := (.v (.bool false))); decide; (iterate 3 (simp only [go_sem, hqL, hgq, hlN]; rfl)); trivial; (focus (intro hg; first | (cases hg; done) | (simp at hg; done) | (simp at hg; omega))); apply e_spec; decide; (iterate 4 (simp only [go_sem, hqL, hgq, hlN]; rfl)); trivial; (iterate 2 (apply e_when (av := (.v (.bool false))); decide; (iterate 3 (simp only [go_sem, hqL, hgq, hlN]; rfl)); trivial; (focus (intro hg; first | (cases hg; done) | (simp at hg; done) | (simp at hg; omega))))); apply e_spec; decide; (iterate 4 (simp only [go_sem, hqL, hgq, hlN]; rfl)); trivial; apply e_when (av := (.v (.bool false))); decide; (iterate 3 (simp only [go_sem, hqL, hgq, hlN]; rfl)); trivial; (focus (intro hg; first | (cases hg; done) | (simp at hg; done) | (simp at hg; omega))); apply e_spec; decide; (iterate 4 (simp only [go_sem, hqL, hgq, hlN]; rfl)); trivial; (iterate 3 (apply e_when (av := (.v (.bool false))); decide; (iterate 3 (simp only [go_sem, hqL, hgq, hlN]; rfl)); trivial; (focus (intro hg; first | (cases hg; done) | (simp at hg; done) | (simp at hg; omega))))); apply e_pickg; decide; (iterate 8 (simp only [go_sem, hqL, hgq, hlN]; rfl)); trivial; trivial; simp [condsOk]; apply e_pick; decide; (iterate 6 (simp only [go_sem, hqL, hgq, hlN]; rfl)); trivial; trivial; trivial; apply e_nil; refine t_nil (hK _ _ ?_); clear hK K)
          refine cs (fun hf => ?_) (fun hf => ?_)
          · simp at hf
          (refine AWp_skip (hK _ _ ?_); clear hK K; apply s_region; (iterate 3 (refine qr ?_)); apply s_nil; simp only [AThen, ABlock])
          refine ⟨(i + 1, w), by simp only; omega, ⟨by simp only; omega, ?_⟩, ?_, by trivial⟩
          · cases w with
            | none => intro k hk; rcases Nat.lt_succ_iff_lt_or_eq.1 hk with hk | rfl; exact hw k hk; exact hD
            | some b => exact ⟨by have := hw.1; omega, hw.2.1, fun k hk hkn => by rcases Nat.lt_succ_iff_lt_or_eq.1 hk with hk | rfl; exact hw.2.2 k hk hkn; exact absurd hD hkn⟩
          · simp only [getAll, List.map, AFr.get, reduceIte, Nat.reduceEqDiff]
            rw [wrapS hli (by omega)]; try rfl
        · rw [decide_eq_false hD] at hgq
          cases w with
          | none =>
            (refine AWp_skip (hK _ _ ?_); clear hK K; apply sK; intro K hK; apply AWp_block; apply sK; intro K hK)
            apply AWp_drawA [0, 1, 2, 3, 4, 5, 6, 7, 8, 9, 10, 11, 12, 13, 14, 15, 16, 17, 18, 19, 20, 21] [] 0 (by exact mixed); kernel_rfl; (iterate 2 (simp only [go_sem]; rfl))
            ((iterate 6 (apply e_q; decide; (simp only [go_sem, hqL, hgq, hlN, lstI]; rfl))); (iterate 4 (apply e_spec; decide; (iterate 4 (simp only [go_sem, hqL, hgq, hlN, lstI]; rfl)); trivial)); apply e_when (av := (.v (.bool false))); decide; (iterate 3 (simp only [go_sem, hqL, hgq, hlN, lstI]; rfl)); trivial; (focus (intro hg; first | (cases hg; done) | (simp at hg; done) | (simp at hg; omega))); apply e_spec; decide; (iterate 4 (simp only [go_sem, hqL, hgq, hlN, lstI]; rfl)); trivial; (iterate 2 (apply e_when (av := (.v (.bool false))); decide; (iterate 3 (simp only [go_sem, hqL, hgq, hlN, lstI]; rfl)); trivial; (focus (intro hg; first | (cases hg; done) | (simp at hg; done) | (simp at hg; omega))))); apply e_spec; decide; (iterate 4 (simp only [go_sem, hqL, hgq, hlN, lstI]; rfl)); trivial; apply e_when (av := (.v (.bool false))); decide; (iterate 3 (simp only [go_sem, hqL, hgq, hlN, lstI]; rfl)); trivial; (focus (intro hg; first | (cases hg; done) | (simp at hg; done) | (simp at hg; omega))); apply e_spec; decide; (iterate 4 (simp only [go_sem, hqL, hgq, hlN, lstI]; rfl)); trivial; (iterate 3 (apply e_when (av := (.v (.bool false))); decide; (iterate 3 (simp only [go_sem, hqL, hgq, hlN, lstI]; rfl)); trivial; (focus (intro hg; first | (cases hg; done) | (simp at hg; done) | (simp at hg; omega))))); apply e_pickg; decide; (iterate 8 (simp only [go_sem, hqL, hgq, hlN, lstI]; rfl)); trivial; trivial; trivial; apply e_pick; decide; (iterate 6 (simp only [go_sem, hqL, hgq, hlN, lstI]; rfl)); trivial; trivial; trivial; apply e_nil; refine t_nil (hK _ _ ?_); clear hK K)
            refine cs (fun hf => ?_) (fun hf => ?_)
            · (apply s_region; (iterate 2 (refine qr ?_)); refine s_nil (hK _ _ ?_); clear hK K; apply s_region; (iterate 3 (refine qr ?_)); apply s_nil; simp only [AThen, ABlock])
              refine ⟨(i + 1, some i), by simp only; omega, ⟨by simp only; omega, by omega, hD, fun k hk hkn => ?_⟩, ?_, by trivial⟩
              · rcases Nat.lt_succ_iff_lt_or_eq.1 hk with hk | rfl
                · exact absurd (hw k hk) hkn
                · exact List.le_refl _
              · simp only [getAll, List.map, AFr.get, reduceIte, Nat.reduceEqDiff]
                rw [wrapS hli (by omega)]; try rfl
            · simp at hf
          | some b =>
            obtain ⟨w1, w2, w3⟩ := hw
            obtain ⟨kb, hkb⟩ := gete (l := j.keys) (i := b) (by omega)
            have hgb := jstr_at hkb
            have hbd : j.keys.getD b [] = kb := by rw [List.getD_eq_getElem?_getD, hkb]; rfl
            have hbl : decide (((b : Nat) : Int) < 0) = false := by rw [decide_eq_false_iff_not]; omega
            (refine AWp_skip (hK _ _ ?_); clear hK K; apply sK; intro K hK; apply AWp_block; apply sK; intro K hK)
            apply AWp_drawA [0, 1, 2, 3, 4, 5, 6, 7, 8, 9, 10, 11, 12, 13, 14, 15, 16, 17, 18, 19, 20, 21] [] 0 (by exact mixed); kernel_rfl; (iterate 2 (simp only [go_sem]; rfl))
            ((iterate 6 (apply e_q; decide; (simp only [go_sem, hqL, hgq, hlN, lstI, hbl]; rfl))); (iterate 4 (apply e_spec; decide; (iterate 4 (simp only [go_sem, hqL, hgq, hlN, lstI, hbl]; rfl)); trivial)); apply e_when; decide; (iterate 3 (simp only [go_sem, hqL, hgq, hlN, lstI, hbl]; rfl)); trivial; (intro hg; simp only [go_sem, hpL, hgk, hgb, lstI]; try rfl); apply e_spec; decide; (iterate 4 (simp only [go_sem, hqL, hgq, hlN, lstI, hbl]; rfl)); trivial; apply e_when; decide; (iterate 3 (simp only [go_sem, hqL, hgq, hlN, lstI, hbl]; rfl)); trivial; (intro hg; simp only [go_sem, hpL, hgk, hgb, lstI]; try rfl); (iterate 2 (apply e_spec; decide; (iterate 4 (simp only [go_sem, hqL, hgq, hlN, lstI, hbl]; rfl)); trivial)); apply e_when; decide; (iterate 3 (simp only [go_sem, hqL, hgq, hlN, lstI, hbl]; rfl)); trivial; (intro hg; simp only [go_sem, hpL, hgk, hgb, lstI]; try rfl); apply e_spec; decide; (iterate 4 (simp only [go_sem, hqL, hgq, hlN, lstI, hbl]; rfl)); trivial; apply e_when; decide; (iterate 3 (simp only [go_sem, hqL, hgq, hlN, lstI, hbl]; rfl)); trivial; (intro hg; simp only [go_sem, hpL, hgk, hgb, lstI]; try rfl); (iterate 2 (apply e_spec; decide; (iterate 4 (simp only [go_sem, hqL, hgq, hlN, lstI, hbl]; rfl)); trivial)); apply e_pickg; decide; (iterate 8 (simp only [go_sem, hqL, hgq, hlN, lstI, hbl]; rfl)); trivial; trivial; trivial; apply e_pick; decide; (iterate 6 (simp only [go_sem, hqL, hgq, hlN, lstI, hbl]; rfl)); trivial; trivial; trivial; apply e_nil; refine t_nil (hK _ _ ?_); clear hK K)
            refine cs (fun hf => ?_) (fun hf => ?_)
            · have hf : blt ky kb = true := by simpa using hf
              rw [blt_eq] at hf
              have hf : ky < kb := by simpa using hf
              (apply s_region; (iterate 2 (refine qr ?_)); refine s_nil (hK _ _ ?_); clear hK K; apply s_region; (iterate 3 (refine qr ?_)); apply s_nil; simp only [AThen, ABlock])
              refine ⟨(i + 1, some i), by simp only; omega, ⟨by simp only; omega, by omega, hD, fun k hk hkn => ?_⟩, ?_, by trivial⟩
              · rcases Nat.lt_succ_iff_lt_or_eq.1 hk with hk | rfl
                · rw [hkd]; rw [hbd] at w3; exact List.le_trans (List.le_of_lt hf) (w3 k hk hkn)
                · exact List.le_refl _
              · simp only [getAll, List.map, AFr.get, reduceIte, Nat.reduceEqDiff]
                rw [wrapS hli (by omega)]; try rfl
            · have hf : blt ky kb = false := by simpa using hf
              rw [blt_eq] at hf
              have hf : ¬ ky < kb := by simpa using hf
              (refine AWp_skip (hK _ _ ?_); clear hK K; apply s_region; (iterate 3 (refine qr ?_)); apply s_nil; simp only [AThen, ABlock])
              refine ⟨(i + 1, some b), by simp only; omega, ⟨by simp only; omega, by omega, w2, fun k hk hkn => ?_⟩, ?_, by trivial⟩
              · rcases Nat.lt_succ_iff_lt_or_eq.1 hk with hk | rfl
                · exact w3 k hk hkn
                · rw [hbd, hkd]; exact List.not_lt.1 hf
              · simp only [getAll, List.map, AFr.get, reduceIte, Nat.reduceEqDiff]
                rw [wrapS hli (by omega)]; try rfl
      · have hiN : i = N := by simp at he; omega
        subst hiN
        have hpm : (placesOf j.keys).length = i := by omega
        obtain ⟨a0, ha0⟩ := gete (l := placesOf j.keys) (i := m) (by omega)
        have ham := List.mem_of_getElem? ha0
        have han : a0 ∉ (placesOf j.keys).take m := fun h => by
          obtain ⟨k, hk, hke⟩ := List.mem_take_iff_getElem.1 h
          obtain ⟨h3, h4⟩ := List.getElem?_eq_some_iff.1 ha0
          have := (List.getElem_inj (pl_nodup j.keys)).1 (hke.trans h4.symm)
          omega
        cases w with
        | none => exact absurd (hw a0 (by have := places_lt ham; omega)) han
        | some b =>
          obtain ⟨w1, w2, w3⟩ := hw
          have hib := place_min s2 (n := m) (b := b) (by omega) (by omega) w2 (fun k hk hkn => w3 k (by omega) hkn)
          clear ha0 ham han
          have hgq : (b : Int) < (i : Int) := by omega
          have hlN : ((b : Int) < (i : Int)) = True := by simp; omega
          obtain ⟨ky, hky⟩ := gete (l := j.keys) (i := b) (by omega)
          have hgk := jstr_at hky
          obtain ⟨x, hx⟩ := gete (l := j.list) (i := b) (by omega)
          have hgx := jget_at hx
          have hxm := List.mem_of_getElem? hx
          have hc5 := J.cells_eq x.ord
          have hgr : ((List.range j.keys.length).map fun k => boolCells (decide (k ∈ (placesOf j.keys).take m)))[b]? = some [.v (.bool (decide (b ∈ (placesOf j.keys).take m)))] := get_range (fun k => boolCells (decide (k ∈ (placesOf j.keys).take m))) (by omega)
          have e1 : ((placesOf j.keys).take (m + 1)).map (fun i => j.keys.getD i []) = ((placesOf j.keys).take m).map (fun i => j.keys.getD i []) ++ [ky] := by
            rw [take_succ hib, List.map_append, List.map_singleton, List.getD_eq_getElem?_getD, hky]; rfl
          have e2 : ((placesOf j.keys).take (m + 1)).map (fun i => (j.list.map J.ord).getD i (.mk 0 0 [] [] [])) = ((placesOf j.keys).take m).map (fun i => (j.list.map J.ord).getD i (.mk 0 0 [] [] [])) ++ [x.ord] := by
            rw [take_succ hib, List.map_append, List.map_singleton, List.getD_eq_getElem?_getD, List.getElem?_map, hx]; rfl
          have e3 : ((List.range j.keys.length).map fun k => boolCells (decide (k ∈ (placesOf j.keys).take m))).set b [.v (.bool true)] = (List.range j.keys.length).map fun k => boolCells (decide (k ∈ (placesOf j.keys).take (m + 1))) := by
            rw [set_range]
            refine List.map_congr_left fun k _ => ?_
            rw [take_succ hib, boolCells, boolCells]
            by_cases hk : k = b
            · subst hk; simp
            · simp [hk]
          obtain ⟨us, hus⟩ : ∃ us, ((placesOf j.keys).take m).map (fun i => j.keys.getD i []) = us := ⟨_, rfl⟩
          obtain ⟨vs, hvs⟩ : ∃ vs, ((placesOf j.keys).take m).map (fun i => (j.list.map J.ord).getD i (.mk 0 0 [] [] [])) = vs := ⟨_, rfl⟩
          have hul : us.length ≤ 1000000000 := by rw [← hus]; simp; omega
          have hvl : vs.length ≤ 1000000000 := by rw [← hvs]; simp; omega
          rw [hus] at hRa e1
          rw [hvs] at hRc e2
          apply AWp_exit; simp only [AThen, ABlock, reduceIte, Nat.reduceEqDiff]; clear hK K; refine hK _ _ ?_; clear hK K
          apply sR; intro K hK
          ((iterate 3 (apply s_q; decide; rfl; (simp only [go_sem, lstI, hqL, hlN, hgr]; rfl))); apply s_store; (iterate 3 (simp only [go_sem, lstI, hqL, hlN, hgr]; rfl)))
          refine s_nil (hK _ _ ?_); clear hK K
          have hqo : q ≠ o := hoq.symm
          have hq1 : (L.put q (doneRow j.keys (m + 1))).get q = some (doneRow j.keys (m + 1)) := AHeap.get_put_same _ _ _
          have hp1 := get_other (x := doneRow j.keys (m + 1)) hpL hpq
          have hr1 := get_other (x := doneRow j.keys (m + 1)) hrL hrq
          have ho1 := get_other (x := doneRow j.keys (m + 1)) hoL hoq
          have hE1 := hE.over hHq (o := doneRow j.keys (m + 1))
          have hRa1 := hRa.set hqL (doneRow j.keys (m + 1)) (by decide)
          have hRc1 := hRc.set hqL (doneRow j.keys (m + 1)) (by decide)
          rw [e3]
          generalize L.put q (doneRow j.keys (m + 1)) = L0 at hq1 hp1 hr1 ho1 hE1 hRa1 hRc1 ⊢
          have nb : ∀ {e : Nat} {sz' : Nat} {sn' : Bool} {es' : List (List AV)}, ¬ 4 = e → doneRow j.keys (m + 1) ≠ .row e sz' sn' es' := fun hne h => by
            injection h with h1 h2 h3 h4; exact hne h1
          have pLs := less_get (e := 9) hp1 (fun _ _ _ h => by cases h)
          have oLs := less_get (e := 9) ho1 (fun _ _ _ h => by cases h)
          (apply sK; intro K hK)
          apply AWp_drawAH [0, 1, 2, 3, 4, 5, 6, 7, 9] [8, 10] 1 (less_ext 9 L0) (by exact mixed); kernel_rfl; (iterate 2 (simp only [go_sem]; rfl))
          ((iterate 7 (apply e_q; decide; (simp only [go_sem, pLs, oLs, hgk, lstI]; rfl))); apply e_lit; decide; exact el_22; (iterate 2 (simp only [go_sem, pLs, oLs, hgk, lstI]; rfl)); decide; apply e_q; decide; (simp only [go_sem, pLs, oLs, hgk, lstI]; rfl); apply e_nil; apply t_append; decide; (iterate 2 (simp only [go_sem, pLs, oLs, hgk, lstI]; rfl)); apply AApp_at el_22 hE1 hRa1 (l := us) (m := [ky]) (g := strCells) rfl rfl tk_22 str_one (by simp; omega) (by simp; omega); intro s1 L1 ra rb rc; have hx1 := rc.less; refine ⟨by (intro _; assumption), ?_⟩)
          have w1 := rc o _ ho1 (fun _ _ _ h => by cases h)
          have w2 := rc r _ hr1 (fun _ _ _ h => by cases h)
          have w3 := rc p _ hp1 (fun _ _ _ h => by cases h)
          have w5 := rc q _ hq1 (fun _ _ _ => nb (by decide))
          have w4 := rc.row (by decide) hRc1
          obtain ⟨b1, hb1, rfl, hb1g⟩ := ra.row (by simp)
          have ra' : RowAt 9 1 H L1 _ _ := .inr ⟨b1, hb1, rfl, hb1g⟩
          (apply t_storex; (iterate 3 (simp only [go_sem, w1]; rfl)); (first | (intro _; exact Ext.put (Ext.refl _) (by assumption)) | (intro h; exact absurd h (by decide)) | (intro _; exact Ext.put (by assumption) (by assumption)) | (intro _; refine Ext.over (c := _) ?_ ?_ <;> assumption)); refine t_nil (hK _ _ ?_); clear hK K)
          have q1 := ra'.put (o' := jbox j.kind j.int j.text (.row b1 1 (us ++ [ky]).length) c) w1 (fun _ _ _ h => by cases h)
          have q2 := w4.put (o' := jbox j.kind j.int j.text (.row b1 1 (us ++ [ky]).length) c) w1 (fun _ _ _ h => by cases h)
          have q3 := AHeap.get_put_same o (jbox j.kind j.int j.text (.row b1 1 (us ++ [ky]).length) c) L1
          have q4 := get_other (x := jbox j.kind j.int j.text (.row b1 1 (us ++ [ky]).length) c) w2 hro
          have q5 := get_other (x := jbox j.kind j.int j.text (.row b1 1 (us ++ [ky]).length) c) w3 hpo
          have q7 := get_other (x := jbox j.kind j.int j.text (.row b1 1 (us ++ [ky]).length) c) w5 hqo
          have q6 := rb.over hHo (o := jbox j.kind j.int j.text (.row b1 1 (us ++ [ky]).length) c)
          simp only [List.length_map] at q1
          generalize L1.put o (jbox j.kind j.int j.text (.row b1 1 (us ++ [ky]).length) c) = L2 at q1 q2 q3 q4 q5 q6 q7 ⊢
          clear w1 w2 w3 w4 w5 ra ra' rb rc hx1 hb1g pLs oLs
          have pLs := less_get (e := 25) q5 (fun _ _ _ h => by cases h)
          have oLs := less_get (e := 25) q3 (fun _ _ _ h => by cases h)
          apply AWp_drawAH [0, 1, 2, 3, 4, 5, 6, 7, 8, 10] [9, 11] 1 (less_ext 25 L2) (by exact mixed); kernel_rfl; (iterate 2 (simp only [go_sem]; rfl))
          ((iterate 7 (apply e_q; decide; (simp only [go_sem, pLs, oLs, hgx, hc5, lstI]; rfl))); apply e_call; decide; (iterate 2 (simp only [go_sem, pLs, oLs, hgx, hc5, lstI]; rfl)); (refine ACall.args_eq (bs := [.agg x.cells]) (by rw [J.cells_eq x]) ?_; apply ih x (hch x hxm) (f4 x hxm); exact ⟨rfl, rfl⟩); apply e_lit; decide; exact el_23; (iterate 2 (simp only [go_sem, pLs, oLs, hgx, hc5, lstI]; rfl)); decide; apply e_q; decide; (simp only [go_sem, pLs, oLs, hgx, hc5, lstI]; rfl); apply e_nil; apply t_append; decide; (iterate 2 (simp only [go_sem, pLs, oLs, hgx, hc5, lstI]; rfl)); apply AApp_at el_23 q6 q2 (l := vs) (m := [x.ord]) (g := J.cells) rfl (by simp [hc5]) tk_23 J.one (by simp; omega) (by simp; omega); intro s2 L3 ra rb rc; have hx3 := rc.less; refine ⟨by (intro _; assumption), ?_⟩)
          have w1 := rc o _ q3 (fun _ _ _ h => by cases h)
          have w2 := rc r _ q4 (fun _ _ _ h => by cases h)
          have w3 := rc p _ q5 (fun _ _ _ h => by cases h)
          have w5 := rc q _ q7 (fun _ _ _ => nb (by decide))
          have w4 := rc.row (by decide) q1
          obtain ⟨b2, hb2, rfl, hb2g⟩ := ra.row (by simp)
          have ra' : RowAt 25 5 H L3 _ _ := .inr ⟨b2, hb2, rfl, hb2g⟩
          (apply t_storex; (iterate 3 (simp only [go_sem, w1]; rfl)); (first | (intro _; exact Ext.put (Ext.refl _) (by assumption)) | (intro h; exact absurd h (by decide)) | (intro _; exact Ext.put (by assumption) (by assumption)) | (intro _; refine Ext.over (c := _) ?_ ?_ <;> assumption)); refine t_nil (hK _ _ ?_); clear hK K; apply s_region; (iterate 3 (apply s_q; decide; rfl; (simp only [go_sem, w1]; rfl))); apply s_nil; simp only [AThen, ABlock])
          have z1 := ra'.put (o' := jbox j.kind j.int j.text (.row b1 1 (us ++ [ky]).length) (.row b2 5 (vs ++ [x.ord]).length)) w1 (fun _ _ _ h => by cases h)
          have z2 := w4.put (o' := jbox j.kind j.int j.text (.row b1 1 (us ++ [ky]).length) (.row b2 5 (vs ++ [x.ord]).length)) w1 (fun _ _ _ h => by cases h)
          simp only [List.length_map] at z1
          refine ⟨(m + 1, .row b1 1 (us ++ [ky]).length, .row b2 5 (vs ++ [x.ord]).length, L3.put o (jbox j.kind j.int j.text (.row b1 1 (us ++ [ky]).length) (.row b2 5 (vs ++ [x.ord]).length))), by simp only; omega, ⟨by simp only; omega, rb.over hHo, get_other w3 hpo, get_other w2 hro, AHeap.get_put_same _ _ _, get_other w5 hqo, ?_, ?_⟩, ?_, ?_⟩
          · simp only [e1]; exact z2
          · simp only [e2, List.nil_append]; exact z1
          · simp only [getAll, List.map, AFr.get, reduceIte, Nat.reduceEqDiff]
            rw [wrapS hlt (by omega)]; try rfl
          · rfl
    · have hge : N ≤ m := by simp at hd; omega
      rw [List.take_of_length_le (by omega)] at hRa hRc
      obtain ⟨us, hus⟩ : ∃ us, (placesOf j.keys).map (fun i => j.keys.getD i []) = us := ⟨_, rfl⟩
      obtain ⟨vs, hvs⟩ : ∃ vs, ys ++ (placesOf j.keys).map (fun i => (j.list.map J.ord).getD i (.mk 0 0 [] [] [])) = vs := ⟨_, rfl⟩
      have hord : j.ord = .mk j.kind j.int j.text us vs := by
        by_cases hk : j.keys = []
        · have hp0 : placesOf j.keys = [] := List.length_eq_zero_iff.1 (by rw [places_len, hk]; rfl)
          rw [← hus, ← hvs, hp0, List.map_nil, List.map_nil, List.append_nil]
          exact hnil hk
        · obtain ⟨h5, rfl⟩ := hcons hk
          rw [← hus, ← hvs, List.nil_append, ord_eq, if_pos h5, h5]
      rw [hus] at hRa
      rw [hvs] at hRc
      have hsn : ∃ K, Snap X [.agg [.v (.int .i64 j.kind), .v (.int .i64 j.int), .s j.text, a, c]] (L.put r (jbox j.kind j.int j.text a c)) [.agg j.ord.cells] K ∧ K = H := by
        refine ⟨H, ?_, rfl⟩
        have hra := hRa.put (o' := jbox j.kind j.int j.text a c) hrL (fun _ _ _ h => by cases h)
        have hrc := hRc.put (o' := jbox j.kind j.int j.text a c) hrL (fun _ _ _ h => by cases h)
        have := snap_two (X := X) (pre := [.v (.int .i64 j.kind), .v (.int .i64 j.int), .s j.text]) hra hrc (hE.over hHr) (by decide) (fun _ _ _ => rfl) (fun b sz es => snap_strs b sz es _)
        rw [hord, J.cells_eq]
        exact this
      obtain ⟨K1, z3, z4⟩ := hsn
      subst z4
      have hst : storeK L (AL.sz? X.P 25) (ptrTo r) (.agg [.v (.int .i64 j.kind), .v (.int .i64 j.int), .s j.text, a, c]) = some (L.put r (jbox j.kind j.int j.text a c)) := by
        rcases hRa with ⟨rfl, _⟩ | ⟨_, _, rfl, _⟩ <;> rcases hRc with ⟨rfl, _⟩ | ⟨_, _, rfl, _⟩ <;> simp only [go_sem, hrL] <;> rfl
      have z5 := AHeap.get_put_same r (jbox j.kind j.int j.text a c) L
      (apply AWp_exit; simp only [AThen, ABlock, reduceIte, Nat.reduceEqDiff]; clear hK K; refine hK _ _ ?_; clear hK K; apply sR; intro K hK; apply s_q; decide; rfl; (simp only [go_sem, hoL]; rfl))
      apply s_store rfl rfl hst
      generalize L.put r (jbox j.kind j.int j.text a c) = L9 at z3 z5 ⊢
      (refine s_nil (hK _ _ ?_); clear hK K; apply AWp_ret)
      try simp only [AThen, ABlock]
      refine end_ret (av := .agg [.v (.int .i64 j.kind), .v (.int .i64 j.int), .s j.text, a, c]) (by show resAV X.P _ _ [.cell 2 25] = _; simp only [go_sem, z5]; try rfl) ⟨_, _, z3, h⟩
  clear hK0
  (apply sR; intro K hK; (iterate 3 (apply s_q; decide; rfl; (simp only [go_sem, k1]; rfl))); refine s_nil (hK _ _ ?_); clear hK K)
  refine cs (fun h4 => ?_) (fun h4 => ?_)
  · have h4 : j.kind = 4 := by simpa using h4
    have hkn := shaped_list hsh h4
    (apply sR; intro K hK; refine qr ?_; refine s_nil (hK _ _ ?_); clear hK K; apply AWp_block)
    refine AWp_loop_s (σ := Nat × AV × AHeap) [1, 2, 3, 4] (fun s => [ptrTo p, ptrTo r, ptrTo o, .v (.int .i64 s.1)]) (fun s => s.2.2) (fun s => j.list.length - s.1)
      (fun s => s.1 ≤ j.list.length ∧ Ext H s.2.2 ∧ s.2.2.get p = some (jbox j.kind j.int j.text (.sl false (j.keys.map strCells)) (.sl false (j.list.map J.cells))) ∧ s.2.2.get r = some (jbox 0 0 [] (.sl true []) (.sl true [])) ∧ s.2.2.get o = some (jbox j.kind j.int j.text (.sl true []) s.2.1) ∧ RowAt 25 5 H s.2.2 (((j.list.take s.1).map J.ord).map J.cells) s.2.1)
      (0, .sl true [], M2) ⟨Nat.zero_le _, k4, k1, k2, k3, RowAt.nil _ _ _ _⟩ rfl rfl (fun s hs => ?_)
    obtain ⟨m, c, L⟩ := s
    obtain ⟨hm, hE, hpL, hrL, hoL, hR⟩ := hs
    clear k1 k2 k3 k4
    simp only [List.zip_cons_cons, List.zip_nil_right] at hm hE hpL hrL hoL hR ⊢
    (apply sK; intro K hK; apply sR; intro K hK; (iterate 5 (apply s_q; decide; rfl; (simp only [go_sem, hpL]; rfl))); refine s_nil (hK _ _ ?_); clear hK K)
    refine cs (fun hd => ?_) (fun hd => ?_)
    · have hlt : m < j.list.length := by simpa using hd
      obtain ⟨x, hx⟩ := gete hlt
      have hgx := jget_at hx
      have hxm := List.mem_of_getElem? hx
      have hc5 := J.cells_eq x.ord
      have q2s := less_get (e := 25) hpL (fun _ _ _ h => by cases h)
      have q3s := less_get (e := 25) hoL (fun _ _ _ h => by cases h)
      (refine AWp_skip (hK _ _ ?_); clear hK K; apply sK; intro K hK; apply AWp_block)
      apply AWp_drawAH [0, 1, 2, 3, 4, 5, 6, 7, 8, 10] [9, 11] 1 (less_ext 25 L) (by exact mixed); kernel_rfl; (iterate 2 (simp only [go_sem]; rfl))
      ((iterate 7 (apply e_q; decide; (simp only [go_sem, q2s, q3s, hgx, hc5]; rfl))); apply e_call; decide; (iterate 2 (simp only [go_sem, q2s, q3s, hgx, hc5]; rfl)); (refine ACall.args_eq (bs := [.agg x.cells]) (by rw [J.cells_eq x]) ?_; apply ih x (hch x hxm) (f4 x hxm); exact ⟨rfl, rfl⟩); apply e_lit; decide; exact el_23; (iterate 2 (simp only [go_sem, q2s, q3s, hgx, hc5]; rfl)); decide; apply e_q; decide; (simp only [go_sem, q2s, q3s, hgx, hc5]; rfl); apply e_nil; apply t_append; decide; (iterate 2 (simp only [go_sem, q2s, q3s, hgx, hc5]; rfl)); apply AApp_at el_23 hE hR (l := (j.list.take m).map J.ord) (m := [x.ord]) (g := J.cells) rfl (by simp [hc5]) tk_23 J.one (by simp; omega) (by simp; omega); intro s2 L3 r1 r2 r3; have hx3 := r3.less; refine ⟨by (intro _; assumption), ?_⟩)
      have w1 := r3 o _ hoL (fun _ _ _ h => by cases h)
      have w2 := r3 r _ hrL (fun _ _ _ h => by cases h)
      have w3 := r3 p _ hpL (fun _ _ _ h => by cases h)
      obtain ⟨rb, hrb, rfl, hrbg⟩ := r1.row (by simp)
      have r1' : RowAt 25 5 H L3 _ _ := .inr ⟨rb, hrb, rfl, hrbg⟩
      (apply t_storex; (iterate 3 (simp only [go_sem, w1]; rfl)); (first | (intro _; exact Ext.put (Ext.refl _) (by assumption)) | (intro h; exact absurd h (by decide)) | (intro _; exact Ext.put (by assumption) (by assumption)) | (intro _; refine Ext.over (c := _) ?_ ?_ <;> assumption)); refine t_nil (hK _ _ ?_); clear hK K; apply s_region; (iterate 3 (apply s_q; decide; rfl; (simp only [go_sem, w1]; rfl))); apply s_nil; simp only [AThen, ABlock])
      have r4 := r1'.put (o' := jbox j.kind j.int j.text (.sl true []) (.row rb 5 (((j.list.take m).map J.ord ++ [x.ord]).map J.cells).length)) w1 (fun _ _ _ h => by cases h)
      have e2 : (j.list.take (m + 1)).map J.ord = (j.list.take m).map J.ord ++ [x.ord] := by rw [take_succ hx]; simp
      refine ⟨(m + 1, .row rb 5 (((j.list.take m).map J.ord ++ [x.ord]).map J.cells).length, L3.put o (jbox j.kind j.int j.text (.sl true []) (.row rb 5 (((j.list.take m).map J.ord ++ [x.ord]).map J.cells).length))), by simp only; omega, ⟨by simp only; omega, r2.over hHo, get_other w3 hpo, get_other w2 hro, AHeap.get_put_same _ _ _, ?_⟩, ?_, ?_⟩
      · simp only [e2]; exact r4
      · simp only [getAll, List.map, AFr.get, reduceIte, Nat.reduceEqDiff]
        rw [wrapS hlt (by omega)]; try rfl
      · simp only [List.length_map]
    · have hge : j.list.length ≤ m := by simpa using hd
      rw [List.take_of_length_le hge] at hR
      apply AWp_exit; simp only [AThen, ABlock, reduceIte, Nat.reduceEqDiff]
      exact hgo (j.list.map J.ord) c L (fun _ => by rw [ord_eq, if_neg (by omega)]) (fun h => absurd hkn h) (by simp; omega) hE hpL hrL hoL hR _ rfl
  · have h4 : ¬ j.kind = 4 := by simpa using h4
    apply AWp_skip; simp only [AThen, ABlock]
    refine hgo [] (.sl true []) M2 (fun hk => ?_) (fun hk => ?_) (by simp) k4 k1 k2 k3 (RowAt.nil _ _ _ _) _ rfl
    · by_cases h5 : j.kind = 5
      · have hp0 : placesOf j.keys = [] := List.length_eq_zero_iff.1 (by rw [places_len, hk]; rfl)
        rw [ord_eq, if_pos h5, hp0, h5]; rfl
      · rw [ord_eq, if_neg h5, (shaped_none hsh h4 h5).2]; rfl
    · by_cases h5 : j.kind = 5
      · exact ⟨h5, rfl⟩
      · exact absurd (shaped_none hsh h4 h5).1 hk
set_option maxHeartbeats 1000000 in
theorem rOrder_c (j : J) (hf : J.Fit j) {H : AHeap} {Kc : AV → AHeap → Prop} (h : Kc (.agg (if goodB 12 j then j.ord else J.mk 0 0 [] [] []).cells) H) : ACall X 107 [.agg j.cells] H Kc := by
  refine ACall.post ?_
  rw [J.cells_eq]
  refine ACall_intro Tryz.func107 rfl (by kernel_rfl) (by rw [Tryz.ntmps107]; simp) ?_; rw [Tryz.ntmps107]; simp only [frame0, Nat.reduceAdd]
  apply sR; intro K hK
  apply s_box; decide; exact (by simp only [go_sem]; try rfl); exact (by simp only [go_sem]; try rfl); intro p hp
  apply s_alloc; decide; exact zc_json; intro r hr
  refine s_nil (hK _ _ ?_); clear hK K
  have g1 := get_fresh (AHeap.get_put_same p (jbox j.kind j.int j.text (.sl false (j.keys.map strCells)) (.sl false (j.list.map J.cells))) H) hr (x := jbox 0 0 [] (.sl true []) (.sl true []))
  have g2 := AHeap.get_put_same r (jbox 0 0 [] (.sl true []) (.sl true [])) (H.put p (jbox j.kind j.int j.text (.sl false (j.keys.map strCells)) (.sl false (j.list.map J.cells))))
  have g3 := (Ext.fresh hp (o := jbox j.kind j.int j.text (.sl false (j.keys.map strCells)) (.sl false (j.list.map J.cells)))).put hr (ob := jbox 0 0 [] (.sl true []) (.sl true []))
  have hHr : H.get r = none := none_fresh hr
  generalize (H.put p (jbox j.kind j.int j.text (.sl false (j.keys.map strCells)) (.sl false (j.list.map J.cells)))).put r (jbox 0 0 [] (.sl true []) (.sl true [])) = M at g1 g2 g3 ⊢
  have hend : ∀ (a : J), storeK M (AL.sz? X.P 25) (ptrTo r) (.agg a.cells) = some (M.put r (jbox a.kind a.int a.text (.sl false (a.keys.map strCells)) (.sl false (a.list.map J.cells)))) ∧ Ext H (M.put r (jbox a.kind a.int a.text (.sl false (a.keys.map strCells)) (.sl false (a.list.map J.cells)))) := fun a => by
    refine ⟨?_, g3.over hHr⟩
    rw [J.cells_eq]; simp only [go_sem, g2]; try rfl
  (apply sK; intro K hK; apply sR; intro K hK; apply s_q; decide; rfl; (simp only [go_sem, g1]; rfl); apply s_call; decide; (iterate 2 (simp only [go_sem, g1]; rfl)); refine ACall.args_eq (bs := [.agg j.cells]) (by rw [J.cells_eq j]) ?_; apply rGood_c j _ _ hf; apply s_q; decide; rfl; (simp only [go_sem, g1]; rfl); refine s_nil (hK _ _ ?_); clear hK K)
  refine cs (fun hg => ?_) (fun hg => ?_)
  · have hg : goodB 12 j = false := by simpa using hg
    rw [hg] at h
    have z1 : storeK M (AL.sz? X.P 25) (ptrTo r) (.agg [.v (.int .i64 0), .v (.int .i64 0), .s [], .sl true [], .sl true []]) = some (M.put r (jbox 0 0 [] (.sl true []) (.sl true []))) := by simp only [go_sem, g2]; try rfl
    have z3 := AHeap.get_put_same r (jbox 0 0 [] (.sl true []) (.sl true [])) M
    (apply sR; intro K hK; apply s_q; decide; rfl; (simp only [go_sem, zc_json]; rfl))
    apply s_store rfl rfl z1
    (refine s_nil (hK _ _ ?_); clear hK K; apply AWp_ret)
    try simp only [AThen, ABlock]
    refine end_ret (av := .agg [.v (.int .i64 0), .v (.int .i64 0), .s [], .sl true [], .sl true []]) (by show resAV X.P _ _ [.cell 2 25] = _; simp only [go_sem, z3]; try rfl) ⟨_, _, Snap.trans Snap.loosen (Snap.drop (g3.over hHr)), h⟩
  · have hg : goodB 12 j = true := by simpa using hg
    rw [hg] at h
    obtain ⟨z1, z2⟩ := hend j.ord
    have z3 := AHeap.get_put_same r (jbox j.ord.kind j.ord.int j.ord.text (.sl false (j.ord.keys.map strCells)) (.sl false (j.ord.list.map J.cells))) M
    (refine AWp_skip (hK _ _ ?_); clear hK K; apply sR; intro K hK; apply s_q; decide; rfl; (simp only [go_sem, g1]; rfl); apply s_call; decide; (iterate 2 (simp only [go_sem, g1]; rfl)); refine ACall.args_eq (bs := [.agg j.cells]) (by rw [J.cells_eq j]) ?_; apply rorder_c 12 j hg hf)
    apply s_store rfl rfl z1
    (refine s_nil (hK _ _ ?_); clear hK K; apply AWp_ret)
    try simp only [AThen, ABlock]
    refine end_ret (av := .agg j.ord.cells) (by show resAV X.P _ _ [.cell 2 25] = _; simp only [go_sem, z3, J.cells_eq]; try rfl) ⟨_, _, Snap.drop z2, h⟩

abbrev Nm := List UInt8 × Int
def nmCells (x : Nm) : List AV := [.s x.1, .v (.int .i64 x.2)]
theorem nm_one (a : Nm) : (nmCells a).length = 2 ∧ (nmCells a).all AV.one = true := ⟨rfl, rfl⟩
theorem nm_at {l : List Nm} {i : Nat} {c : Nm} (h : l[i]? = some c) : (l.map nmCells)[i]? = some [.s c.1, .v (.int .i64 c.2)] := by rw [List.getElem?_map, h]; rfl
def fndL (l : List Nm) (s : List UInt8) : Int × Bool := match l.find? (fun x => decide (x.1 = s)) with | some x => (x.2, true) | none => (0, false)
structure Lv where
  ban : Int
  kick : Int
  invite : Int
  redact : Int
  state : Int
  events : Int
  users : Int
  byUser : List Nm
  byType : List Nm
def Lv.cells (l : Lv) : List AV := [.v (.int .i64 l.ban), .v (.int .i64 l.kick), .v (.int .i64 l.invite), .v (.int .i64 l.redact), .v (.int .i64 l.state), .v (.int .i64 l.events), .v (.int .i64 l.users), .sl false (l.byUser.map nmCells), .sl false (l.byType.map nmCells)]
def Lv.user (l : Lv) (s : List UInt8) : Int := if (fndL l.byUser s).2 then (fndL l.byUser s).1 else l.users
def Lv.type (l : Lv) (s : List UInt8) (state : Bool) : Int := if (fndL l.byType s).2 then (fndL l.byType s).1 else if state then l.state else l.events
def lvStart (s : List UInt8) : Lv := ⟨50, 50, 0, 50, 0, 0, 0, [(s, 100)], []⟩
def Lv.Len (l : Lv) : Prop := l.byUser.length ≤ 1000000000 ∧ l.byType.length ≤ 1000000000

theorem findB_c (q : Nat) (s : List UInt8) (x : Nm) (H : AHeap) (hq : H.get q = some (.box 9 [.s s])) (Kc : AV → AHeap → Prop) (h : Kc (.v (.bool (decide (x.1 = s)))) H) : ACall X 139 [.agg (nmCells x), ptrTo q] H Kc := by
  rw [nmCells]
  refine ACall.drop ?_
  refine ACall_intro Tryz.func139 rfl (by kernel_rfl) (by rw [Tryz.ntmps139]; simp) ?_; rw [Tryz.ntmps139]; simp only [frame0, Nat.reduceAdd]
  apply sR; intro K hK
  apply s_box; decide; exact (by simp only [go_sem]; try rfl); exact (by simp only [go_sem]; try rfl); intro p hp
  (refine qr ?_; refine s_nil (hK _ _ ?_); clear hK K; apply sR; intro K hK; (iterate 2 (refine qr ?_)))
  have g1 := get_fresh hq hp (x := .box 98 [.s x.1, .v (.int .i64 x.2)])
  ((iterate 3 (apply s_q; decide; rfl; (simp only [go_sem, g1]; rfl))); refine s_nil (hK _ _ ?_); clear hK K; apply AWp_ret)
  exact ⟨H, Ext.fresh hp, h⟩
set_option maxHeartbeats 1000000 in
theorem indexFuncN_c (g : FuncId) (cap : List AV) (p : Nm → Bool) (t : Bool) (l : List Nm) (hl : l.length ≤ 4611686018427387904) (H : AHeap) (hg : ∀ x ∈ l, ∀ K : AV → AHeap → Prop, K (.v (.bool (p x))) H → ACall X g ([.agg (nmCells x)] ++ cap) H K) (Kc : AV → AHeap → Prop)
    (h : Kc (.v (.int .i64 (firstI p l))) H) : ACall X 138 [.sl t (l.map nmCells), .fn (.func g) [] cap] H Kc := by
  refine ACall_intro Tryz.func138 rfl (by kernel_rfl) (by rw [Tryz.ntmps138]; simp) ?_; rw [Tryz.ntmps138]; simp only [frame0, Nat.reduceAdd]
  (apply sR; intro K hK; refine qr ?_; refine s_nil (hK _ _ ?_); clear hK K; apply sK; intro K hK; apply sR; intro K hK; (iterate 3 (refine qr ?_)); refine s_nil (hK _ _ ?_); clear hK K; apply AWp_block)
  refine AWp_loop_s (σ := Nat) [0, 1, 7, 8] (fun i => [.sl t (l.map nmCells), .fn (.func g) [] cap, .v (.int .i64 l.length), .v (.int .i64 i)]) (fun _ => H) (fun i => l.length - i) (fun i => i ≤ l.length ∧ ∀ x ∈ l.take i, p x = false) 0 ⟨Nat.zero_le _, by simp⟩ rfl rfl (fun i hi => ?_)
  simp only [List.zip_cons_cons, List.zip_nil_right]
  (apply sR; intro K hK; refine qr ?_; refine s_nil (hK _ _ ?_); clear hK K; apply sK; intro K hK)
  refine cs (fun hd => ?_) (fun hd => ?_)
  · have hlt : i < l.length := by simpa using hd
    obtain ⟨x, hm⟩ := gete hlt
    have hgx := nm_at hm
    have hxm := List.mem_of_getElem? hm
    (refine AWp_skip (hK _ _ ?_); clear hK K; apply sK; intro K hK; apply AWp_block; apply sR; intro K hK; (iterate 2 (apply s_q; decide; rfl; (simp only [go_sem, hgx]; rfl))); refine s_nil (hK _ _ ?_); clear hK K; apply sR; intro K hK; (iterate 5 (apply s_q; decide; rfl; (simp only [go_sem, hgx]; rfl))); apply s_call; decide; (iterate 2 (simp only [go_sem, hgx]; rfl)); apply hg x hxm; refine s_nil (hK _ _ ?_); clear hK K)
    refine cs (fun hq => ?_) (fun hq => ?_)
    · (apply sR; intro K hK; (iterate 2 (refine qr ?_)); refine s_nil (hK _ _ ?_); clear hK K; apply AWp_ret; simp only [AThen, ABlock]; apply end_ret; rfl; simp only [AFr.get, reduceIte, Nat.reduceEqDiff])
      exact finI h (firstI_some hi.2 hm hq).symm
    · (refine AWp_skip (hK _ _ ?_); clear hK K; apply s_region; (iterate 2 (refine qr ?_)); apply s_nil; simp only [AThen, ABlock])
      refine ⟨i + 1, by omega, ⟨by omega, ?_⟩, ?_, by trivial⟩
      · rw [List.take_add_one, hm]
        intro y hy
        rcases List.mem_append.1 hy with hy | hy
        · exact hi.2 y hy
        · simp at hy; subst hy; exact hq
      · simp only [getAll, List.map, AFr.get, reduceIte, Nat.reduceEqDiff]
        rw [wrapS hlt (by omega)]; try rfl
  · have hge : l.length ≤ i := by simpa using hd
    (apply AWp_exit; simp only [AThen, ABlock, reduceIte, Nat.reduceEqDiff]; clear hK K; refine hK _ _ ?_; clear hK K; apply sR; intro K hK; refine qr ?_; refine s_nil (hK _ _ ?_); clear hK K; apply AWp_ret)
    have := hi.2
    rw [List.take_of_length_le hge] at this
    exact finI h (firstI_none this).symm
theorem firstI_cases {α : Type} (p : α → Bool) (l : List α) : (firstI p l = -1 ∧ l.find? p = none) ∨ ∃ i x, firstI p l = ((i : Nat) : Int) ∧ l[i]? = some x ∧ l.find? p = some x := by
  rw [firstI]
  cases h : l.findIdx? p with
  | none =>
    left
    refine ⟨rfl, ?_⟩
    rw [List.findIdx?_eq_none_iff] at h
    rw [List.find?_eq_none]
    intro x hx
    simp [h x hx]
  | some i =>
    right
    obtain ⟨hi, h1, h2⟩ := List.findIdx?_eq_some_iff_getElem.1 h
    refine ⟨i, l[i], rfl, List.getElem?_eq_getElem hi, ?_⟩
    rw [List.find?_eq_some_iff_getElem]
    exact ⟨h1, i, hi, rfl, fun j hj => by simpa using h2 j hj⟩
set_option maxHeartbeats 1000000 in
theorem find_c (t : Bool) (l : List Nm) (hl : l.length ≤ 4611686018427387904) (s : List UInt8) (H : AHeap) (Kc : AV → AHeap → Prop) (h : Kc (.tup [.v (.int .i64 (fndL l s).1), .v (.bool (fndL l s).2)]) H) : ACall X 104 [.sl t (l.map nmCells), .s s] H Kc := by
  refine ACall.drop ?_
  refine ACall_intro Tryz.func104 rfl (by kernel_rfl) (by rw [Tryz.ntmps104]; simp) ?_; rw [Tryz.ntmps104]; simp only [frame0, Nat.reduceAdd]
  apply sR; intro K hK
  apply s_box; decide; exact (by simp only [go_sem]; try rfl); exact (by simp only [go_sem]; try rfl); intro q hq
  have g1 := AHeap.get_put_same q (.box 9 [.s s]) H
  have hE := Ext.fresh hq (o := .box 9 [.s s])
  generalize H.put q (.box 9 [.s s]) = M at g1 hE ⊢
  ((iterate 2 (refine qr ?_)); refine s_nil (hK _ _ ?_); clear hK K; apply sR; intro K hK; (iterate 2 (refine qr ?_)); apply s_call; decide; (iterate 2 (simp only [go_sem]; rfl)); apply indexFuncN_c 139 [ptrTo q] (fun x => decide (x.1 = s)) t l hl _ (fun x _ K hK => findB_c q s x _ g1 K hK); refine qr ?_; refine s_nil (hK _ _ ?_); clear hK K; apply sK; intro K hK; apply sR; intro K hK; (iterate 2 (refine qr ?_)); refine s_nil (hK _ _ ?_); clear hK K)
  rcases firstI_cases (fun x : Nm => decide (x.1 = s)) l with ⟨e1, e2⟩ | ⟨i, x, e1, e2, e3⟩
  · rw [e1]
    rw [fndL, e2] at h
    refine cs (fun hc => ?_) (fun hc => ?_)
    · (apply sR; intro K hK; (iterate 2 (refine qr ?_)); refine s_nil (hK _ _ ?_); clear hK K; apply AWp_ret; simp only [AThen, ABlock]; apply end_ret; rfl; simp only [AFr.get, reduceIte, Nat.reduceEqDiff])
      exact ⟨H, hE, h⟩
    · cases hc
  · rw [e1]
    rw [fndL, e3] at h
    have hgx := nm_at e2
    refine cs (fun hc => ?_) (fun hc => ?_)
    · simp at hc; omega
    · (refine AWp_skip (hK _ _ ?_); clear hK K; apply sR; intro K hK; (iterate 7 (apply s_q; decide; rfl; (simp only [go_sem, hgx]; rfl))); refine s_nil (hK _ _ ?_); clear hK K; apply AWp_ret)
      exact ⟨H, hE, h⟩

abbrev lvbox (l : Lv) : AObj := .box 58 [.v (.int .i64 l.ban), .v (.int .i64 l.kick), .v (.int .i64 l.invite), .v (.int .i64 l.redact), .v (.int .i64 l.state), .v (.int .i64 l.events), .v (.int .i64 l.users), .sl false (l.byUser.map nmCells), .sl false (l.byType.map nmCells)]

theorem puser_c (l : Lv) (hl : l.Len) (s : List UInt8) (H : AHeap) (Kc : AV → AHeap → Prop) (h : Kc (.v (.int .i64 (l.user s))) H) : ACall X 69 [.agg l.cells, .s s] H Kc := by
  refine ACall.drop ?_
  rw [Lv.cells]
  refine ACall_intro Tryz.func69 rfl (by kernel_rfl) (by rw [Tryz.ntmps69]; simp) ?_; rw [Tryz.ntmps69]; simp only [frame0, Nat.reduceAdd]
  apply sR; intro K hK
  apply s_box; decide; exact (by simp only [go_sem]; try rfl); exact (by simp only [go_sem]; try rfl); intro q hq
  have g1 := AHeap.get_put_same q (lvbox l) H
  have hE := Ext.fresh hq (o := lvbox l)
  generalize H.put q (lvbox l) = M at g1 hE ⊢
  (apply s_q; decide; rfl; (simp only [go_sem, g1]; rfl); refine s_nil (hK _ _ ?_); clear hK K; apply sK; intro K hK; apply sR; intro K hK; (iterate 3 (apply s_q; decide; rfl; (simp only [go_sem, g1]; rfl))); apply s_call; decide; (iterate 2 (simp only [go_sem, g1]; rfl)); apply find_c false l.byUser (by have := hl.1; omega) s; (iterate 5 (apply s_q; decide; rfl; (simp only [go_sem, g1]; rfl))); refine s_nil (hK _ _ ?_); clear hK K; apply sR; intro K hK; apply s_q; decide; rfl; (simp only [go_sem, g1]; rfl); refine s_nil (hK _ _ ?_); clear hK K)
  rw [Lv.user] at h
  refine cs (fun hc => ?_) (fun hc => ?_)
  · rw [if_pos hc] at h
    (apply sR; intro K hK; (iterate 2 (apply s_q; decide; rfl; (simp only [go_sem, g1]; rfl))); refine s_nil (hK _ _ ?_); clear hK K; apply AWp_ret; simp only [AThen, ABlock]; apply end_ret; rfl; simp only [AFr.get, reduceIte, Nat.reduceEqDiff])
    exact ⟨H, hE, h⟩
  · rw [if_neg (by simpa using hc)] at h
    (refine AWp_skip (hK _ _ ?_); clear hK K; apply sR; intro K hK; (iterate 3 (apply s_q; decide; rfl; (simp only [go_sem, g1]; rfl))); refine s_nil (hK _ _ ?_); clear hK K; apply AWp_ret)
    exact ⟨H, hE, h⟩
theorem rfind_c (t : Bool) (l : List Nm) (hl : l.length ≤ 1000000000) (s : List UInt8) (H : AHeap) (Kc : AV → AHeap → Prop) (h : Kc (.tup [.v (.int .i64 (fndL l s).1), .v (.bool (fndL l s).2)]) H) : ACall X 74 [.sl t (l.map nmCells), .s s] H Kc := by
  refine ACall_intro Tryz.func74 rfl (by kernel_rfl) (by rw [Tryz.ntmps74]; simp) ?_; rw [Tryz.ntmps74]; simp only [frame0, Nat.reduceAdd]
  (apply sR; intro K hK; (iterate 2 (refine qr ?_)); refine s_nil (hK _ _ ?_); clear hK K; apply sK; intro K hK; apply sR; intro K hK; refine qr ?_; refine s_nil (hK _ _ ?_); clear hK K; apply AWp_block)
  refine AWp_loop_s (σ := Nat) [0, 1, 6] (fun i => [.sl t (l.map nmCells), .s s, .v (.int .i64 i)]) (fun _ => H) (fun i => l.length - i) (fun i => i ≤ l.length ∧ ∀ x ∈ l.take i, (fun x : Nm => decide (x.1 = s)) x = false) 0 ⟨Nat.zero_le _, by simp⟩ rfl rfl (fun i hi => ?_)
  simp only [List.zip_cons_cons, List.zip_nil_right]
  (apply sK; intro K hK; apply sR; intro K hK; (iterate 4 (refine qr ?_)); refine s_nil (hK _ _ ?_); clear hK K)
  refine cs (fun hd => ?_) (fun hd => ?_)
  · have hlt : i < l.length := by simpa using hd
    obtain ⟨x, hm⟩ := gete hlt
    have hgx := nm_at hm
    (refine AWp_skip (hK _ _ ?_); clear hK K; apply sK; intro K hK; apply AWp_block; apply sR; intro K hK; (iterate 7 (apply s_q; decide; rfl; (simp only [go_sem, hgx]; rfl))); refine s_nil (hK _ _ ?_); clear hK K)
    refine cs (fun hq => ?_) (fun hq => ?_)
    · (apply sR; intro K hK; (iterate 7 (apply s_q; decide; rfl; (simp only [go_sem, hgx]; rfl))); refine s_nil (hK _ _ ?_); clear hK K; apply AWp_ret; simp only [AThen, ABlock]; apply end_ret; rfl; simp only [AFr.get, reduceIte, Nat.reduceEqDiff])
      have := firstI_some (p := fun x : Nm => decide (x.1 = s)) hi.2 hm hq
      rcases firstI_cases (fun x : Nm => decide (x.1 = s)) l with ⟨e1, e2⟩ | ⟨i', x', e1, e2, e3⟩
      · omega
      · have : i = i' := by omega
        subst this
        rw [hm] at e2; cases e2
        rw [fndL, e3] at h
        exact h
    · (refine AWp_skip (hK _ _ ?_); clear hK K; apply s_region; (iterate 3 (refine qr ?_)); apply s_nil; simp only [AThen, ABlock])
      refine ⟨i + 1, by omega, ⟨by omega, ?_⟩, ?_, by trivial⟩
      · rw [List.take_add_one, hm]
        intro y hy
        rcases List.mem_append.1 hy with hy | hy
        · exact hi.2 y hy
        · simp at hy; subst hy; exact hq
      · simp only [getAll, List.map, AFr.get, reduceIte, Nat.reduceEqDiff]
        rw [wrapS hlt (by omega)]; try rfl
  · have hge : l.length ≤ i := by simpa using hd
    (apply AWp_exit; simp only [AThen, ABlock, reduceIte, Nat.reduceEqDiff]; clear hK K; refine hK _ _ ?_; clear hK K; apply sR; intro K hK; (iterate 2 (refine qr ?_)); refine s_nil (hK _ _ ?_); clear hK K; apply AWp_ret)
    have := hi.2
    rw [List.take_of_length_le hge] at this
    have e : l.find? (fun x : Nm => decide (x.1 = s)) = none := by rw [List.find?_eq_none]; intro x hx; simp [this x hx]
    rw [fndL, e] at h
    exact h
theorem ruser_c (l : Lv) (hl : l.Len) (s : List UInt8) (H : AHeap) (Kc : AV → AHeap → Prop) (h : Kc (.v (.int .i64 (l.user s))) H) : ACall X 41 [.agg l.cells, .s s] H Kc := by
  refine ACall.drop ?_
  rw [Lv.cells]
  refine ACall_intro Tryz.func41 rfl (by kernel_rfl) (by rw [Tryz.ntmps41]; simp) ?_; rw [Tryz.ntmps41]; simp only [frame0, Nat.reduceAdd]
  apply sR; intro K hK
  apply s_box; decide; exact (by simp only [go_sem]; try rfl); exact (by simp only [go_sem]; try rfl); intro q hq
  have g1 := AHeap.get_put_same q (lvbox l) H
  have hE := Ext.fresh hq (o := lvbox l)
  generalize H.put q (lvbox l) = M at g1 hE ⊢
  (apply s_q; decide; rfl; (simp only [go_sem, g1]; rfl); refine s_nil (hK _ _ ?_); clear hK K; apply sR; intro K hK; (iterate 3 (apply s_q; decide; rfl; (simp only [go_sem, g1]; rfl))); apply s_call; decide; (iterate 2 (simp only [go_sem, g1]; rfl)); apply rfind_c false l.byUser (by have := hl.1; omega) s; (iterate 5 (apply s_q; decide; rfl; (simp only [go_sem, g1]; rfl))); refine s_nil (hK _ _ ?_); clear hK K; apply sK; intro K hK; apply sR; intro K hK; apply s_q; decide; rfl; (simp only [go_sem, g1]; rfl); refine s_nil (hK _ _ ?_); clear hK K)
  rw [Lv.user] at h
  refine cs (fun hc => ?_) (fun hc => ?_)
  · rw [if_pos hc] at h
    (apply sR; intro K hK; (iterate 2 (apply s_q; decide; rfl; (simp only [go_sem, g1]; rfl))); refine s_nil (hK _ _ ?_); clear hK K; apply AWp_ret; simp only [AThen, ABlock]; apply end_ret; rfl; simp only [AFr.get, reduceIte, Nat.reduceEqDiff])
    exact ⟨H, hE, h⟩
  · rw [if_neg (by simpa using hc)] at h
    (refine AWp_skip (hK _ _ ?_); clear hK K; apply sR; intro K hK; (iterate 3 (apply s_q; decide; rfl; (simp only [go_sem, g1]; rfl))); refine s_nil (hK _ _ ?_); clear hK K; apply AWp_ret)
    exact ⟨H, hE, h⟩
def levelB (j : J) : Bool := if (if decide (j.kind = 2) = true then decide (-1073741824 ≤ j.int) else false) = true then decide (j.int ≤ 1073741824) else false
theorem level_c (j : J) (H : AHeap) (Kc : AV → AHeap → Prop) (h : Kc (.tup [.v (.int .i64 j.int), .v (.bool (levelB j))]) H) : ACall X 133 [.agg j.cells] H Kc := by
  refine ACall.drop ?_
  rw [J.cells_eq]
  refine ACall_intro Tryz.func133 rfl (by kernel_rfl) (by rw [Tryz.ntmps133]; simp) ?_; rw [Tryz.ntmps133]; simp only [frame0, Nat.reduceAdd]
  apply sR; intro K hK
  apply s_box; decide; exact (by simp only [go_sem]; try rfl); exact (by simp only [go_sem]; try rfl); intro q hq
  have g1 := AHeap.get_put_same q (.box 25 [.v (.int .i64 j.kind), .v (.int .i64 j.int), .s j.text, .sl false (j.keys.map strCells), .sl false (j.list.map J.cells)]) H
  have hE := Ext.fresh hq (o := .box 25 [.v (.int .i64 j.kind), .v (.int .i64 j.int), .s j.text, .sl false (j.keys.map strCells), .sl false (j.list.map J.cells)])
  generalize H.put q (.box 25 [.v (.int .i64 j.kind), .v (.int .i64 j.int), .s j.text, .sl false (j.keys.map strCells), .sl false (j.list.map J.cells)]) = M at g1 hE ⊢
  ((iterate 2 (refine qr ?_)); refine s_nil (hK _ _ ?_); clear hK K; apply sK; intro K hK)
  apply AWp_drawA [0, 1, 2, 3, 4, 5, 6, 7, 8, 9, 10, 11, 12, 13, 14, 15, 16] [] 0 (by exact mixed); kernel_rfl; (iterate 2 (simp only [go_sem]; rfl))
  ((iterate 6 (apply e_q; decide; (simp only [go_sem, g1]; rfl))); apply e_spec; decide; (iterate 4 (simp only [go_sem, g1]; rfl)); trivial; (iterate 2 (apply e_spec; decide; (iterate 4 (simp only [go_sem, g1]; rfl)); simp [condsOk])); apply e_pick; decide; (iterate 6 (simp only [go_sem, g1]; rfl)); trivial; simp [condsOk]; trivial; apply e_q; decide; (simp only [go_sem, g1]; rfl); apply e_spec; decide; (iterate 4 (simp only [go_sem, g1]; rfl)); trivial; (iterate 2 (apply e_spec; decide; (iterate 4 (simp only [go_sem, g1]; rfl)); simp [condsOk])); apply e_pick; decide; (iterate 6 (simp only [go_sem, g1]; rfl)); trivial; simp [condsOk]; trivial; (iterate 2 (apply e_q; decide; (simp only [go_sem, g1]; rfl))); apply e_nil; refine t_nil (hK _ _ ?_); clear hK K; apply AWp_ret)
  refine end_ret (av := .tup [.v (.int .i64 j.int), .v (.bool (levelB j))]) ?_ ⟨H, hE, h⟩
  show resAV X.P _ _ [.tmp 2, .tmp 3] = _
  simp only [go_sem, levelB]; try rfl

theorem put_self {H : AHeap} {q : Nat} {o : AObj} (h : H.get q = some o) : H.put q o = H := by
  funext c
  show (H.put q o).get c = H.get c
  rw [AHeap.get_put]; split
  · rename_i e; subst e; exact h.symm
  · rfl
theorem ext_put2 {H : AHeap} {q b : Nat} {o x y : AObj} (hq : H.get q = some o) (hb : H.get b = none) : Ext (H.put q x) ((H.put b y).put q x) := fun c z hc => by
  rw [AHeap.get_put] at hc ⊢
  split
  · rename_i e; rw [if_pos e] at hc; exact hc
  · rename_i e
    rw [if_neg e] at hc
    rw [AHeap.get_put, if_neg (by rintro rfl; rw [hb] at hc; cases hc)]; exact hc
def numR (o : Option J) (n : Int) : Int := match o with | none => n | some j => j.int
def numB (o : Option J) (bad : Bool) : Bool := match o with | none => bad | some j => if bad = true then true else !levelB j
abbrev cbox (m : Nat) (bad : Bool) : AObj := .box 117 [.v (.map (some m)), .v (.bool bad)]
set_option maxHeartbeats 1000000 in
theorem number_c (q m : Nat) (bad : Bool) (es : List (List UInt8 × AV)) (key : List UInt8) (o : Option J) (hk : kfind key es = o.map fun x => AV.agg x.cells) (n : Int) (H : AHeap) (hq : H.get q = some (cbox m bad)) (hm : H.get m = some (.smap es)) (Kc : AV → AHeap → Prop)
    (h : Kc (.v (.int .i64 (numR o n))) (H.put q (cbox m (numB o bad)))) : ACall X 100 [ptrTo q, .s key, .v (.int .i64 n)] H Kc := by
  refine ACall.drop ?_
  refine ACall_intro Tryz.func100 rfl (by kernel_rfl) (by rw [Tryz.ntmps100]; simp) ?_; rw [Tryz.ntmps100]; simp only [frame0, Nat.reduceAdd]
  cases o with
  | none =>
    have hk : kfind key es = none := hk
    have h : Kc (.v (.int .i64 n)) (H.put q (cbox m bad)) := h
    rw [put_self hq] at h
    (apply sR; intro K hK; apply s_q; decide; rfl; (simp only [go_sem, hq, hm, hk]; rfl); refine s_nil (hK _ _ ?_); clear hK K; apply sR; intro K hK; (iterate 9 (apply s_q; decide; rfl; (simp only [go_sem, hq, hm, hk]; rfl))); apply s_alloc; decide; exact zc_25; intro b hb; apply s_store; (iterate 3 (simp only [go_sem, hq, hm, hk]; rfl)); apply s_q; decide; rfl; (simp only [go_sem, hq, hm, hk]; rfl); refine s_nil (hK _ _ ?_); clear hK K; apply sK; intro K hK; apply sR; intro K hK; (iterate 2 (apply s_q; decide; rfl; (simp only [go_sem, hq, hm, hk]; rfl))); refine s_nil (hK _ _ ?_); clear hK K)
    refine cs (fun hc => ?_) (fun hc => ?_)
    rotate_left
    · cases hc
    (apply sR; intro K hK; (iterate 2 (refine qr ?_)); refine s_nil (hK _ _ ?_); clear hK K; apply AWp_ret; simp only [AThen, ABlock]; apply end_ret; rfl; simp only [AFr.get, reduceIte, Nat.reduceEqDiff])
    exact ⟨H, Ext.fresh hb, h⟩
  | some j =>
    have hk : kfind key es = some (.agg [.v (.int .i64 j.kind), .v (.int .i64 j.int), .s j.text, .sl false (j.keys.map strCells), .sl false (j.list.map J.cells)]) := by rw [hk, ← J.cells_eq]; rfl
    have h : Kc (.v (.int .i64 j.int)) (H.put q (cbox m (if bad = true then true else !levelB j))) := h
    (apply sR; intro K hK; apply s_q; decide; rfl; (simp only [go_sem, hq, hm, hk]; rfl); refine s_nil (hK _ _ ?_); clear hK K; apply sR; intro K hK; (iterate 9 (apply s_q; decide; rfl; (simp only [go_sem, hq, hm, hk]; rfl))); apply s_alloc; decide; exact zc_25; intro b hb; apply s_store; (iterate 3 (simp only [go_sem, hq, hm, hk]; rfl)); apply s_q; decide; rfl; (simp only [go_sem, hq, hm, hk]; rfl); refine s_nil (hK _ _ ?_); clear hK K; apply sK; intro K hK; apply sR; intro K hK; (iterate 2 (apply s_q; decide; rfl; (simp only [go_sem, hq, hm, hk]; rfl))); refine s_nil (hK _ _ ?_); clear hK K)
    refine cs (fun hc => ?_) (fun hc => ?_)
    · cases hc
    have g1 := get_fresh hq hb (x := (.box 25 [.v (.int .i64 j.kind), .v (.int .i64 j.int), .s j.text, .sl false (j.keys.map strCells), .sl false (j.list.map J.cells)]))
    have g2 := AHeap.get_put_same b (.box 25 [.v (.int .i64 j.kind), .v (.int .i64 j.int), .s j.text, .sl false (j.keys.map strCells), .sl false (j.list.map J.cells)]) H
    (refine AWp_skip (hK _ _ ?_); clear hK K; apply sR; intro K hK; apply s_q; decide; rfl; (simp only [go_sem, g1, g2]; rfl); apply s_call; decide; (iterate 2 (simp only [go_sem, g1, g2]; rfl)); refine ACall.args_eq (bs := [.agg j.cells]) ?_ ?_; (focus (rw [J.cells_eq j]; done)); apply level_c j; (iterate 5 (apply s_q; decide; rfl; (simp only [go_sem, g1, g2]; rfl))); refine s_nil (hK _ _ ?_); clear hK K; apply sR; intro K hK; (iterate 6 (apply s_q; decide; rfl; (simp only [go_sem, g1, g2]; rfl))); apply s_spec; decide; rfl; rfl; (iterate 4 (simp only [go_sem, g1, g2]; rfl)); trivial; apply s_spec; decide; rfl; rfl; (iterate 4 (simp only [go_sem, g1, g2]; rfl)); simp [condsOk]; apply s_pick; decide; (iterate 6 (simp only [go_sem, g1, g2]; rfl)); trivial; trivial; simp [condsOk]; (iterate 2 (apply s_q; decide; rfl; (simp only [go_sem, g1, g2]; rfl))); apply s_store; (iterate 3 (simp only [go_sem, g1, g2]; rfl)); refine s_nil (hK _ _ ?_); clear hK K; apply sR; intro K hK; (iterate 2 (apply s_q; decide; rfl; (simp only [go_sem, g1, g2]; rfl))); refine s_nil (hK _ _ ?_); clear hK K; apply AWp_ret)
    exact ⟨H.put q _, ext_put2 hq hb, h⟩
theorem ext_reput {H L : AHeap} {q : Nat} {x y : AObj} (h : Ext (H.put q x) L) : Ext (H.put q y) (L.put q y) := fun c z hc => by
  rw [AHeap.get_put] at hc ⊢
  split
  · rename_i e; rw [if_pos e] at hc; exact hc
  · rename_i e; rw [if_neg e] at hc
    exact h c z (by rw [AHeap.get_put, if_neg e]; exact hc)
theorem rowAt_rebase {e sz q : Nat} {H L : AHeap} {es : List (List AV)} {a : AV} {x y : AObj} (h : RowAt e sz (H.put q x) L es a) : RowAt e sz (H.put q y) L es a := by
  rcases h with h | ⟨b, h1, h2, h3⟩
  · exact .inl h
  · refine .inr ⟨b, ?_, h2, h3⟩
    rw [AHeap.get_put] at h1 ⊢
    split at h1
    · cases h1
    · rename_i e; rw [if_neg e]; exact h1
theorem snap_at {e sz : Nat} {K0 L : AHeap} {es : List (List AV)} {a : AV} (h : RowAt e sz K0 L es a) (hE : Ext K0 L) : Snap X [a] L [.sl false es] K0 := by
  rcases h with ⟨rfl, rfl⟩ | ⟨b, h1, rfl, h3⟩
  · exact Snap.trans Snap.loosen (Snap.drop hE)
  · have h5 : Snap X [.row b sz es.length] L (AV.snaps b sz es [.row b sz es.length]) (L.put b (.row e sz true es)) := Snap.row h3
    simp only [AV.snaps, AV.snap] at h5
    rw [if_pos trivial, if_pos ⟨trivial, Nat.le_refl _⟩, List.take_length] at h5
    exact h5.trans (Snap.drop (Ext.over hE h1))
def namesL (l : List (List UInt8 × J)) : List Nm := l.map fun x => (x.1, x.2.int)
def namesB (p : List UInt8 → Bool) (bad : Bool) (l : List (List UInt8 × J)) : Bool := l.foldl (fun b x => if (if b = true then true else !levelB x.2) = true then true else !p x.1) bad
def namesR (o : Option J) : List Nm := match o with | none => [] | some j => namesL (j.keys.zip j.list)
def namesBad (p : List UInt8 → Bool) (o : Option J) (bad : Bool) : Bool := match o with | none => bad | some j => namesB p (if bad = true then true else !decide (j.kind = 5)) (j.keys.zip j.list)
set_option maxHeartbeats 2000000 in
theorem names_c (q m : Nat) (bad : Bool) (es : List (List UInt8 × AV)) (key : List UInt8) (o : Option J) (hk : kfind key es = o.map fun x => AV.agg x.cells) (g : FuncId) (pr : List UInt8 → Bool) (hg : ∀ (l : List UInt8), l.length < 4294967281 → ∀ (H : AHeap) (K : AV → AHeap → Prop), K (.v (.bool (pr l))) H → ACall X g [.s l] H K)
    (ho : ∀ j, o = some j → (j.keys.length ≤ 1000000000 ∧ j.keys.length ≤ j.list.length) ∧ ∀ k ∈ j.keys, k.length < 4294967281) (H : AHeap) (hq : H.get q = some (cbox m bad)) (hm : H.get m = some (.smap es)) (Kc : AV → AHeap → Prop)
    (h : Kc (.sl false ((namesR o).map nmCells)) (H.put q (cbox m (namesBad pr o bad)))) : ACall X 101 [ptrTo q, .s key, .fn (.func g) [] []] H Kc := by
  refine ACall.post ?_
  refine ACall_intro Tryz.func101 rfl (by kernel_rfl) (by rw [Tryz.ntmps101]; simp) ?_; rw [Tryz.ntmps101]; simp only [frame0, Nat.reduceAdd]
  cases o with
  | none =>
    have hk : kfind key es = none := hk
    have h : Kc (.sl false []) (H.put q (cbox m bad)) := h
    rw [put_self hq] at h
    (apply sR; intro K hK; apply s_q; decide; rfl; (simp only [go_sem, hq, hm, hk]; rfl); refine s_nil (hK _ _ ?_); clear hK K; apply sR; intro K hK; (iterate 9 (apply s_q; decide; rfl; (simp only [go_sem, hq, hm, hk]; rfl))); apply s_alloc; decide; exact zc_25; intro b hb; apply s_store; (iterate 3 (simp only [go_sem, hq, hm, hk]; rfl)); apply s_q; decide; rfl; (simp only [go_sem, hq, hm, hk]; rfl); refine s_nil (hK _ _ ?_); clear hK K; apply sK; intro K hK; apply sR; intro K hK; (iterate 2 (apply s_q; decide; rfl; (simp only [go_sem, hq, hm, hk]; rfl))); refine s_nil (hK _ _ ?_); clear hK K)
    refine cs (fun hc => ?_) (fun hc => ?_)
    rotate_left
    · cases hc
    (apply sR; intro K hK; refine qr ?_; refine s_nil (hK _ _ ?_); clear hK K; apply AWp_ret; simp only [AThen, ABlock]; apply end_ret; rfl; simp only [AFr.get, reduceIte, Nat.reduceEqDiff])
    exact ⟨_, _, Snap.trans Snap.loosen (Snap.drop (Ext.fresh hb)), h⟩
  | some j =>
    obtain ⟨⟨f1, f2⟩, f3⟩ := ho j rfl
    have hk : kfind key es = some (.agg [.v (.int .i64 j.kind), .v (.int .i64 j.int), .s j.text, .sl false (j.keys.map strCells), .sl false (j.list.map J.cells)]) := by rw [hk, ← J.cells_eq]; rfl
    have h : Kc (.sl false ((namesL (j.keys.zip j.list)).map nmCells)) (H.put q (cbox m (namesB pr (if bad = true then true else !decide (j.kind = 5)) (j.keys.zip j.list)))) := h
    obtain ⟨b0, hb0⟩ : ∃ b0, b0 = (if bad = true then true else !decide (j.kind = 5)) := ⟨_, rfl⟩
    rw [← hb0] at h
    (apply sR; intro K hK; apply s_q; decide; rfl; (simp only [go_sem, hq, hm, hk]; rfl); refine s_nil (hK _ _ ?_); clear hK K; apply sR; intro K hK; (iterate 9 (apply s_q; decide; rfl; (simp only [go_sem, hq, hm, hk]; rfl))); apply s_alloc; decide; exact zc_25; intro b hb; apply s_store; (iterate 3 (simp only [go_sem, hq, hm, hk]; rfl)); apply s_q; decide; rfl; (simp only [go_sem, hq, hm, hk]; rfl); refine s_nil (hK _ _ ?_); clear hK K; apply sK; intro K hK; apply sR; intro K hK; (iterate 2 (apply s_q; decide; rfl; (simp only [go_sem, hq, hm, hk]; rfl))); refine s_nil (hK _ _ ?_); clear hK K)
    refine cs (fun hc => ?_) (fun hc => ?_)
    · cases hc
    obtain ⟨p, hpb⟩ : ∃ p, p = b := ⟨_, rfl⟩
    have hp := hb
    rw [← hpb] at hp ⊢
    clear hb hpb b
    have g1 := get_fresh hq hp (x := (.box 25 [.v (.int .i64 j.kind), .v (.int .i64 j.int), .s j.text, .sl false (j.keys.map strCells), .sl false (j.list.map J.cells)]))
    have g2 := AHeap.get_put_same p (.box 25 [.v (.int .i64 j.kind), .v (.int .i64 j.int), .s j.text, .sl false (j.keys.map strCells), .sl false (j.list.map J.cells)]) H
    have hpq := get_ne_fresh hq hp
    have hE1 : Ext (H.put q (cbox m b0)) ((H.put p (.box 25 [.v (.int .i64 j.kind), .v (.int .i64 j.int), .s j.text, .sl false (j.keys.map strCells), .sl false (j.list.map J.cells)])).put q (cbox m b0)) := ext_put2 hq hp
    have g3 : ((H.put p (.box 25 [.v (.int .i64 j.kind), .v (.int .i64 j.int), .s j.text, .sl false (j.keys.map strCells), .sl false (j.list.map J.cells)])).put q (cbox m b0)).get p = _ := get_other g2 hpq.symm
    have g4 := AHeap.get_put_same q (cbox m b0) (H.put p (.box 25 [.v (.int .i64 j.kind), .v (.int .i64 j.int), .s j.text, .sl false (j.keys.map strCells), .sl false (j.list.map J.cells)]))
    generalize H.put p (.box 25 [.v (.int .i64 j.kind), .v (.int .i64 j.int), .s j.text, .sl false (j.keys.map strCells), .sl false (j.list.map J.cells)]) = M0 at g1 g2 g3 g4 hE1 ⊢
    (refine AWp_skip (hK _ _ ?_); clear hK K; apply sR; intro K hK; (iterate 6 (apply s_q; decide; rfl; (simp only [go_sem, g1, g2]; rfl))); apply s_spec; decide; rfl; rfl; (iterate 4 (simp only [go_sem, g1, g2]; rfl)); trivial; (iterate 2 (apply s_spec; decide; rfl; rfl; (iterate 4 (simp only [go_sem, g1, g2]; rfl)); simp [condsOk])); apply s_pick; decide; (iterate 6 (simp only [go_sem, g1, g2]; rfl)); trivial; trivial; simp [condsOk]; (iterate 2 (apply s_q; decide; rfl; (simp only [go_sem, g1, g2]; rfl))); apply s_store; (iterate 3 (simp only [go_sem, g1, g2]; rfl)); refine s_nil (hK _ _ ?_); clear hK K; apply sR; intro K hK; apply s_q; decide; rfl; (simp only [go_sem, g1, g2]; rfl); refine s_nil (hK _ _ ?_); clear hK K; apply sK; intro K hK; apply sR; intro K hK; apply s_q; decide; rfl; (simp only [go_sem, g1, g2]; rfl))
    rw [← hb0]
    generalize M0.put q (cbox m b0) = M1 at g3 g4 hE1 ⊢
    clear g1 g2
    ((iterate 3 (apply s_q; decide; rfl; (simp only [go_sem, g3]; rfl))); refine s_nil (hK _ _ ?_); clear hK K; apply AWp_block)
    refine AWp_loop_s (σ := Nat × AV × AHeap) [0, 2, 7, 9, 38, 39, 40] (fun s => [ptrTo q, .fn (.func g) [] [], ptrTo p, s.2.1, .sl false (j.keys.map strCells), .v (.int .i64 (j.keys.length : Nat)), .v (.int .i64 s.1)]) (fun s => s.2.2) (fun s => j.keys.length - s.1)
      (fun s => s.1 ≤ j.keys.length ∧ s.2.2.get q = some (cbox m (namesB pr b0 ((j.keys.zip j.list).take s.1))) ∧ s.2.2.get p = some (.box 25 [.v (.int .i64 j.kind), .v (.int .i64 j.int), .s j.text, .sl false (j.keys.map strCells), .sl false (j.list.map J.cells)]) ∧ Ext (H.put q (cbox m (namesB pr b0 ((j.keys.zip j.list).take s.1)))) s.2.2 ∧
        RowAt 98 2 (H.put q (cbox m (namesB pr b0 ((j.keys.zip j.list).take s.1)))) s.2.2 ((namesL ((j.keys.zip j.list).take s.1)).map nmCells) s.2.1)
      (0, .sl true [], M1) ⟨Nat.zero_le _, g4, g3, hE1, RowAt.nil _ _ _ _⟩ (by simp only [getAll, List.map_cons, List.map_nil, AFr.get, reduceIte, Nat.reduceEqDiff, List.length_map]; rfl) rfl (fun s hs => ?_)
    obtain ⟨n, a, L⟩ := s
    obtain ⟨hn, hqL, hpL, hE, hR⟩ := hs
    simp only [List.zip_cons_cons, List.zip_nil_right] at hn hqL hpL hE hR ⊢
    clear g3 g4 hE1
    (apply sR; intro K hK; refine qr ?_; refine s_nil (hK _ _ ?_); clear hK K; apply sK; intro K hK)
    refine cs (fun hd => ?_) (fun hd => ?_)
    · have hlt : n < j.keys.length := by simpa using hd
      obtain ⟨ky, hky⟩ := gete hlt
      have hgk := jstr_at hky
      obtain ⟨x, hx⟩ := gete (l := j.list) (i := n) (by omega)
      have hgx := jget_at hx
      have hz : (j.keys.zip j.list)[n]? = some (ky, x) := by rw [List.getElem?_zip_eq_some]; exact ⟨hky, hx⟩
      have ht : (j.keys.zip j.list).take (n + 1) = (j.keys.zip j.list).take n ++ [(ky, x)] := take_succ hz
      obtain ⟨l, hl⟩ : ∃ l, l = (j.keys.zip j.list).take n := ⟨_, rfl⟩
      rw [← hl] at hqL hE hR ht
      obtain ⟨bb, hbb⟩ : ∃ bb, bb = namesB pr b0 l := ⟨_, rfl⟩
      rw [← hbb] at hqL hE hR
      have hll : l.length ≤ 1000000000 := by rw [hl, List.length_take, List.length_zip]; omega
      have hfk := f3 ky (List.mem_of_getElem? hky)
      have e1 : namesL (l ++ [(ky, x)]) = namesL l ++ [(ky, x.int)] := by rw [namesL, List.map_append]; rfl
      have e2 : namesB pr b0 (l ++ [(ky, x)]) = if (if bb = true then true else !levelB x) = true then true else !pr ky := by rw [namesB, List.foldl_append, hbb, namesB]; rfl
      (refine AWp_skip (hK _ _ ?_); clear hK K; apply sK; intro K hK; apply AWp_block; apply sR; intro K hK; (iterate 5 (apply s_q; decide; rfl; (simp only [go_sem, hqL, hpL, hgk, hgx]; rfl))); refine s_nil (hK _ _ ?_); clear hK K; apply sR; intro K hK; (iterate 5 (apply s_q; decide; rfl; (simp only [go_sem, hqL, hpL, hgk, hgx]; rfl))); apply s_call; decide; (iterate 2 (simp only [go_sem, hqL, hpL, hgk, hgx]; rfl)); refine ACall.args_eq (bs := [.agg x.cells]) ?_ ?_; (focus (rw [J.cells_eq x]; done)); apply level_c x; (iterate 5 (apply s_q; decide; rfl; (simp only [go_sem, hqL, hpL, hgk, hgx]; rfl))); refine s_nil (hK _ _ ?_); clear hK K; apply sR; intro K hK; (iterate 6 (apply s_q; decide; rfl; (simp only [go_sem, hqL, hpL, hgk, hgx]; rfl))); apply s_spec; decide; rfl; rfl; (iterate 4 (simp only [go_sem, hqL, hpL, hgk, hgx]; rfl)); trivial; apply s_spec; decide; rfl; rfl; (iterate 4 (simp only [go_sem, hqL, hpL, hgk, hgx]; rfl)); simp [condsOk]; apply s_pick; decide; (iterate 6 (simp only [go_sem, hqL, hpL, hgk, hgx]; rfl)); trivial; trivial; simp [condsOk]; apply s_q; decide; rfl; (simp only [go_sem, hqL, hpL, hgk, hgx]; rfl); (iterate 2 (apply s_spec; decide; rfl; rfl; (iterate 4 (simp only [go_sem, hqL, hpL, hgk, hgx]; rfl)); trivial)); apply s_gpure; decide; (iterate 3 (simp only [go_sem, hqL, hpL, hgk, hgx]; rfl)); simp [condsOk]; (iterate 2 (simp only [go_sem, hqL, hpL, hgk, hgx]; rfl)); (apply hg ky hfk; exact ⟨rfl, rfl⟩); apply s_spec; decide; rfl; rfl; (iterate 4 (simp only [go_sem, hqL, hpL, hgk, hgx]; rfl)); simp [condsOk]; apply s_pick; decide; (iterate 6 (simp only [go_sem, hqL, hpL, hgk, hgx]; rfl)); trivial; trivial; simp [condsOk]; (iterate 2 (apply s_q; decide; rfl; (simp only [go_sem, hqL, hpL, hgk, hgx]; rfl))); apply s_store; (iterate 3 (simp only [go_sem, hqL, hpL, hgk, hgx]; rfl)); refine s_nil (hK _ _ ?_); clear hK K; apply s_region; (iterate 4 (apply s_q; decide; rfl; (simp only [go_sem, hqL, hpL, hgk, hgx]; rfl))); apply s_lit; decide; exact el_56; (iterate 2 (simp only [go_sem, hqL, hpL, hgk, hgx]; rfl)); decide)
      rw [← e2]
      obtain ⟨b1, hb1⟩ : ∃ b1, b1 = namesB pr b0 (l ++ [(ky, x)]) := ⟨_, rfl⟩
      rw [← hb1]
      have hR2 := rowAt_rebase (y := cbox m b1) (hR.put (o' := cbox m b1) hqL (fun _ _ _ h => by cases h))
      have hE2 := ext_reput (y := cbox m b1) hE
      have q2 := AHeap.get_put_same q (cbox m b1) L
      have p2 := get_other (x := cbox m b1) hpL hpq.symm
      generalize L.put q (cbox m b1) = L2 at hR2 hE2 q2 p2 ⊢
      have hnl : (namesL l).length = l.length := by rw [namesL, List.length_map]
      (apply s_append; decide; (iterate 2 (simp only [go_sem]; rfl)); apply AApp_at el_56 hE2 hR2 (l := namesL l) (m := [(ky, x.int)]) rfl rfl tk_56 nm_one (by rw [hnl]; simp; omega) (by rw [hnl]; simp; omega); intro s1 L1 ra rb rc; refine qr ?_; refine s_nil (hK _ _ ?_); clear hK K; apply s_region; (iterate 2 (refine qr ?_)); apply s_nil; simp only [AThen, ABlock])
      refine ⟨(n + 1, s1, L1), by simp only; omega, ⟨by simp only; omega, ?_, rc p _ p2 (fun _ _ _ h => by cases h), ?_, ?_⟩, ?_, by trivial⟩
      · simp only [ht, ← hb1]; exact rc q _ q2 (fun _ _ _ h => by cases h)
      · simp only [ht, ← hb1]; exact rb
      · simp only [ht, ← hb1, e1]; exact ra
      · simp only [getAll, List.map, AFr.get, reduceIte, Nat.reduceEqDiff]
        rw [wrapS hlt (by omega)]; try rfl
    · have hge : j.keys.length ≤ n := by simpa using hd
      have htk : (j.keys.zip j.list).take n = j.keys.zip j.list := List.take_of_length_le (by rw [List.length_zip]; omega)
      rw [htk] at hqL hE hR
      (apply AWp_exit; simp only [AThen, ABlock, reduceIte, Nat.reduceEqDiff]; clear hK K; refine hK _ _ ?_; clear hK K; apply sR; intro K hK; (iterate 2 (refine qr ?_)); refine s_nil (hK _ _ ?_); clear hK K; apply AWp_ret)
      exact ⟨_, _, snap_at hR hE, h⟩

def isUserB (l : List UInt8) : Bool := match idCut [64] l with | some _ => true | none => false
theorem puserB_c (l : List UInt8) (hl : l.length < 4294967281) (H : AHeap) (K : AV → AHeap → Prop) (h : K (.v (.bool (isUserB l))) H) : ACall X 102 [.s l] H K := by
  obtain ⟨a, b, c, e, e2⟩ : ∃ a b c, idParts [64] l = .tup [.s a, .s b, .v (.bool c)] ∧ isUserB l = c := by
    rw [idParts, isUserB]
    cases idCut [64] l with
    | none => exact ⟨_, _, _, rfl, rfl⟩
    | some p => exact ⟨_, _, _, rfl, rfl⟩
  rw [e2] at h
  refine ACall_intro Tryz.func102 rfl (by kernel_rfl) (by rw [Tryz.ntmps102]; simp) ?_; rw [Tryz.ntmps102]; simp only [frame0, Nat.reduceAdd]
  (apply sR; intro K hK; refine qr ?_; refine s_nil (hK _ _ ?_); clear hK K; apply sR; intro K hK; refine qr ?_; apply s_call; decide; (iterate 2 (simp only [go_sem]; rfl)); apply user_c l hl; refine qr ?_)
  rw [e]
  ((iterate 6 (refine qr ?_)); refine s_nil (hK _ _ ?_); clear hK K; apply sR; intro K hK; (iterate 2 (refine qr ?_)); refine s_nil (hK _ _ ?_); clear hK K; apply AWp_ret)
  exact h

def kvE (l : List (List UInt8 × J)) : List (List UInt8 × AV) := l.foldl (fun es p => kput p.1 (.agg p.2.cells) es) []
def jlast (l : List (List UInt8 × J)) (k : List UInt8) : Option J := l.foldl (fun o p => if p.1 = k then some p.2 else o) none
theorem kv_find (k : List UInt8) : ∀ (l : List (List UInt8 × J)) (es : List (List UInt8 × AV)) (o : Option J), kfind k es = o.map (fun x => AV.agg x.cells) →
    kfind k (l.foldl (fun es p => kput p.1 (.agg p.2.cells) es) es) = (l.foldl (fun o p => if p.1 = k then some p.2 else o) o).map fun x => AV.agg x.cells
  | [], es, o, h => h
  | p :: l, es, o, h => by
    simp only [List.foldl_cons]
    refine kv_find k l _ _ ?_
    rw [kfind_kput, h]
    split <;> rfl
theorem kvE_find (k : List UInt8) (l : List (List UInt8 × J)) : kfind k (kvE l) = (jlast l k).map fun x => AV.agg x.cells := kv_find k l [] none rfl
theorem jlast_mem {k : List UInt8} : ∀ {l : List (List UInt8 × J)} {o : Option J} {j : J}, l.foldl (fun o p => if p.1 = k then some p.2 else o) o = some j → o = some j ∨ ∃ p ∈ l, p.2 = j
  | [], o, j, h => .inl h
  | p :: l, o, j, h => by
    rcases jlast_mem (l := l) h with h | ⟨q, hq, e⟩
    · dsimp only at h
      split at h
      · cases h; exact .inr ⟨p, by simp, rfl⟩
      · exact .inl h
    · exact .inr ⟨q, by simp [hq], e⟩
def lv0 : Lv := ⟨0, 0, 0, 0, 0, 0, 0, [], []⟩
def lvOf (g : List UInt8 → Option J) : Option Lv :=
  let b1 := numB (g ([98, 97, 110] : List UInt8)) false
  let b2 := numB (g ([107, 105, 99, 107] : List UInt8)) b1
  let b3 := numB (g ([105, 110, 118, 105, 116, 101] : List UInt8)) b2
  let b4 := numB (g ([114, 101, 100, 97, 99, 116] : List UInt8)) b3
  let b5 := numB (g ([115, 116, 97, 116, 101, 95, 100, 101, 102, 97, 117, 108, 116] : List UInt8)) b4
  let b6 := numB (g ([101, 118, 101, 110, 116, 115, 95, 100, 101, 102, 97, 117, 108, 116] : List UInt8)) b5
  let b7 := numB (g ([117, 115, 101, 114, 115, 95, 100, 101, 102, 97, 117, 108, 116] : List UInt8)) b6
  let b8 := namesBad isUserB (g ([117, 115, 101, 114, 115] : List UInt8)) b7
  let b9 := namesBad isType (g ([101, 118, 101, 110, 116, 115] : List UInt8)) b8
  if b9 = true then none else some ⟨numR (g ([98, 97, 110] : List UInt8)) 50, numR (g ([107, 105, 99, 107] : List UInt8)) 50, numR (g ([105, 110, 118, 105, 116, 101] : List UInt8)) 0, numR (g ([114, 101, 100, 97, 99, 116] : List UInt8)) 50,
    numR (g ([115, 116, 97, 116, 101, 95, 100, 101, 102, 97, 117, 108, 116] : List UInt8)) 50, numR (g ([101, 118, 101, 110, 116, 115, 95, 100, 101, 102, 97, 117, 108, 116] : List UInt8)) 0, numR (g ([117, 115, 101, 114, 115, 95, 100, 101, 102, 97, 117, 108, 116] : List UInt8)) 0,
    namesR (g ([117, 115, 101, 114, 115] : List UInt8)), namesR (g ([101, 118, 101, 110, 116, 115] : List UInt8))⟩
def lvParse (j : J) : Option Lv := if j.kind = 5 then (if goodB 12 j = true then lvOf (jlast (j.ord.keys.zip j.ord.list)) else none) else none
def lvRes (o : Option Lv) : AV := match o with | some l => .tup [.agg l.cells, .v (.int .i64 0)] | none => .tup [.agg lv0.cells, .v (.int .i64 1)]

theorem ord_keys {n : Nat} {y : J} (hg : goodB n y = true) (hf : y.Fit) (hk : ∀ k ∈ y.keys, k.length < 4294967281) : (y.ord.keys.length ≤ 1000000000 ∧ y.ord.keys.length ≤ y.ord.list.length) ∧ ∀ k ∈ y.ord.keys, k.length < 4294967281 := by
  obtain ⟨⟨f1, f2⟩, f3, f4, f5⟩ := fit_eq.1 hf
  rw [ord_eq]
  split
  · refine ⟨⟨by simpa [J.keys, places_len] using f1, by simp [J.keys, J.list]⟩, fun k hkm => ?_⟩
    simp only [J.keys, List.mem_map] at hkm
    obtain ⟨i, hi, rfl⟩ := hkm
    have hlt := places_lt hi
    rw [List.getD_eq_getElem?_getD, List.getElem?_eq_getElem hlt]
    exact hk _ (List.getElem_mem hlt)
  · exact ⟨⟨by simp [J.keys], by simp [J.keys]⟩, fun k hkm => by simp [J.keys] at hkm⟩
theorem ord_list {j : J} (h5 : j.kind = 5) (hl : j.keys.length = j.list.length) {x : J} (hx : x ∈ j.ord.list) : ∃ y ∈ j.list, x = y.ord := by
  rw [ord_eq, if_pos h5] at hx
  simp only [J.list, List.mem_map] at hx
  obtain ⟨i, hi, rfl⟩ := hx
  have hlt := places_lt hi
  rw [hl] at hlt
  refine ⟨j.list[i], List.getElem_mem hlt, ?_⟩
  show (j.list.map J.ord).getD i (.mk 0 0 [] [] []) = _
  rw [List.getD_eq_getElem?_getD, List.getElem?_map, List.getElem?_eq_getElem hlt]; rfl
theorem zc_levels : zC X.P 58 = some [.v (.int .i64 0), .v (.int .i64 0), .v (.int .i64 0), .v (.int .i64 0), .v (.int .i64 0), .v (.int .i64 0), .v (.int .i64 0), .sl true [], .sl true []] := zc_58
abbrev lvz : AObj := .box 58 [.v (.int .i64 0), .v (.int .i64 0), .v (.int .i64 0), .v (.int .i64 0), .v (.int .i64 0), .v (.int .i64 0), .v (.int .i64 0), .sl true [], .sl true []]
set_option maxHeartbeats 4000000 in
theorem parse_c (j : J) (hf : J.Fit j) (hs : (∀ k ∈ j.keys, k.length < 4294967281) ∧ ∀ x ∈ j.list, ∀ k ∈ x.keys, k.length < 4294967281) (H : AHeap) (Kc : AV → AHeap → Prop) (h : Kc (lvRes (lvParse j)) H) : ACall X 68 [.agg j.cells] H Kc := by
  refine ACall.post ?_
  rw [J.cells_eq]
  refine ACall_intro Tryz.func68 rfl (by kernel_rfl) (by rw [Tryz.ntmps68]; simp) ?_; rw [Tryz.ntmps68]; simp only [frame0, Nat.reduceAdd]
  apply sR; intro K hK
  apply s_box; decide; exact (by simp only [go_sem]; try rfl); exact (by simp only [go_sem]; try rfl); intro p hp
  apply s_alloc; decide; exact zc_levels; intro r hr
  (refine qr ?_; refine s_nil (hK _ _ ?_); clear hK K; apply sK; intro K hK; apply sR; intro K hK; refine qr ?_)
  have g1 := get_fresh (AHeap.get_put_same p (jbox j.kind j.int j.text (.sl false (j.keys.map strCells)) (.sl false (j.list.map J.cells))) H) hr (x := lvz)
  have g2 := AHeap.get_put_same r lvz (H.put p (jbox j.kind j.int j.text (.sl false (j.keys.map strCells)) (.sl false (j.list.map J.cells))))
  have hE := (Ext.fresh hp (o := jbox j.kind j.int j.text (.sl false (j.keys.map strCells)) (.sl false (j.list.map J.cells)))).put hr (ob := lvz)
  have hHr : H.get r = none := none_fresh hr
  have hpr := get_ne_fresh (AHeap.get_put_same p (jbox j.kind j.int j.text (.sl false (j.keys.map strCells)) (.sl false (j.list.map J.cells))) H) hr
  generalize (H.put p (jbox j.kind j.int j.text (.sl false (j.keys.map strCells)) (.sl false (j.list.map J.cells)))).put r lvz = M at g1 g2 hE ⊢
  ((iterate 3 (apply s_q; decide; rfl; (simp only [go_sem, g1]; rfl))); apply s_spec; decide; rfl; rfl; (iterate 4 (simp only [go_sem, g1]; rfl)); trivial; apply s_gpure; decide; (iterate 3 (simp only [go_sem, g1]; rfl)); simp [condsOk]; (iterate 2 (simp only [go_sem, g1]; rfl)); (refine ACall.args_eq (bs := [.agg j.cells]) ?_ ?_; (focus (rw [J.cells_eq j]; done)); apply Good_c j _ _ hf; exact ⟨rfl, rfl⟩); apply s_spec; decide; rfl; rfl; (iterate 4 (simp only [go_sem, g1]; rfl)); simp [condsOk]; apply s_pick; decide; (iterate 6 (simp only [go_sem, g1]; rfl)); trivial; trivial; simp [condsOk]; refine s_nil (hK _ _ ?_); clear hK K)
  refine cs (fun hc => ?_) (fun hc => ?_)
  · have hn : lvParse j = none := by
      rw [lvParse]
      by_cases h5 : j.kind = 5
      · rw [if_pos h5]
        rw [if_neg (by simpa [h5] using hc)]
      · rw [if_neg h5]
    rw [hn] at h
    (apply sR; intro K hK; apply s_q; decide; rfl; (simp only [go_sem, zc_levels, g2]; rfl); apply s_store; (iterate 3 (simp only [go_sem, zc_levels, g2]; rfl)); apply s_q; decide; rfl; (simp only [go_sem, zc_levels, g2]; rfl); refine s_nil (hK _ _ ?_); clear hK K; apply AWp_ret)
    try simp only [AThen, ABlock]
    refine end_ret (av := .tup [.agg [.v (.int .i64 0), .v (.int .i64 0), .v (.int .i64 0), .v (.int .i64 0), .v (.int .i64 0), .v (.int .i64 0), .v (.int .i64 0), .sl true [], .sl true []], .v (.int .i64 1)]) (by show resAV X.P _ _ [.cell 2 58, .tmp 3] = _; simp only [go_sem]; try rfl) ⟨_, _, Snap.trans Snap.loosen (Snap.drop (hE.over hHr)), h⟩
  have hc' : j.kind = 5 ∧ goodB 12 j = true := by
    by_cases h5 : j.kind = 5
    · refine ⟨h5, ?_⟩; simpa [h5] using hc
    · simp [h5] at hc
  obtain ⟨h5, hg⟩ := hc'
  rw [lvParse, if_pos h5, if_pos hg] at h
  obtain ⟨c, hcc⟩ : ∃ c, c = j.ord := ⟨_, rfl⟩
  rw [← hcc] at h
  have hOrd : ∀ (H : AHeap) (K : AV → AHeap → Prop), K (.agg [.v (.int .i64 c.kind), .v (.int .i64 c.int), .s c.text, .sl false (c.keys.map strCells), .sl false (c.list.map J.cells)]) H → ACall X 99 [.agg j.cells] H K := fun H K hk => Order_c j hf (by rw [if_pos hg, ← hcc, J.cells_eq]; exact hk)
  (refine AWp_skip (hK _ _ ?_); clear hK K; apply sR; intro K hK; apply s_q; decide; rfl; (simp only [go_sem, g1]; rfl); apply s_call; decide; (iterate 2 (simp only [go_sem, g1]; rfl)); refine ACall.args_eq (bs := [.agg j.cells]) ?_ ?_; (focus (rw [J.cells_eq j]; done)); apply hOrd; apply s_store; (iterate 3 (simp only [go_sem, g1]; rfl)); refine s_nil (hK _ _ ?_); clear hK K; apply sR; intro K hK; apply s_smap; decide; exact mp_115; intro b hb; apply s_q; decide; rfl; (simp only [go_sem, g1]; rfl); apply s_box; decide; (iterate 2 (simp only [go_sem, g1]; rfl)); intro b hb; apply s_q; decide; rfl; (simp only [go_sem, g1]; rfl); refine s_nil (hK _ _ ?_); clear hK K; apply sK; intro K hK; apply sR; intro K hK; apply s_q; decide; rfl; (simp only [go_sem, g1]; rfl))
  rename_i m hm K1 hK1
  obtain ⟨q, hqe⟩ : ∃ q, q = b := ⟨_, rfl⟩
  have hq := hb
  rw [← hqe] at hq ⊢
  clear hb hqe b
  obtain ⟨z, hz⟩ : ∃ z, z = c.keys.zip c.list := ⟨_, rfl⟩
  have hcf := ord_keys hg hf hs.1
  rw [← hcc] at hcf
  have hclen : c.list.length = c.keys.length := by
    rw [hcc, ord_eq, if_pos h5]; simp [J.keys, J.list]
  have k1 := get_fresh (get_fresh (AHeap.get_put_same p (jbox c.kind c.int c.text (.sl false (c.keys.map strCells)) (.sl false (c.list.map J.cells))) M) hm (x := .smap [])) hq (x := cbox m false)
  have k2 := get_fresh (get_fresh (get_other (x := (jbox c.kind c.int c.text (.sl false (c.keys.map strCells)) (.sl false (c.list.map J.cells)))) g2 hpr.symm) hm (x := .smap [])) hq (x := cbox m false)
  have k3 := get_fresh (AHeap.get_put_same m (.smap []) (M.put p (jbox c.kind c.int c.text (.sl false (c.keys.map strCells)) (.sl false (c.list.map J.cells))))) hq (x := cbox m false)
  have k4 := AHeap.get_put_same q (cbox m false) ((M.put p (jbox c.kind c.int c.text (.sl false (c.keys.map strCells)) (.sl false (c.list.map J.cells)))).put m (.smap []))
  have hE1 := ((hE.over (o := (jbox c.kind c.int c.text (.sl false (c.keys.map strCells)) (.sl false (c.list.map J.cells)))) hp).put hm (ob := .smap [])).put hq (ob := cbox m false)
  have hHm : H.get m = none := none_of_ext (hE.over (o := (jbox c.kind c.int c.text (.sl false (c.keys.map strCells)) (.sl false (c.list.map J.cells)))) hp) hm
  have hHq : H.get q = none := none_of_ext ((hE.over (o := (jbox c.kind c.int c.text (.sl false (c.keys.map strCells)) (.sl false (c.list.map J.cells)))) hp).put hm (ob := .smap [])) hq
  have hpm : p ≠ m := get_ne_fresh (AHeap.get_put_same p (jbox c.kind c.int c.text (.sl false (c.keys.map strCells)) (.sl false (c.list.map J.cells))) M) hm
  have hrm : r ≠ m := get_ne_fresh (get_other (x := (jbox c.kind c.int c.text (.sl false (c.keys.map strCells)) (.sl false (c.list.map J.cells)))) g2 hpr.symm) hm
  have hmq : m ≠ q := get_ne_fresh (AHeap.get_put_same m (.smap []) (M.put p (jbox c.kind c.int c.text (.sl false (c.keys.map strCells)) (.sl false (c.list.map J.cells))))) hq
  generalize ((M.put p (jbox c.kind c.int c.text (.sl false (c.keys.map strCells)) (.sl false (c.list.map J.cells)))).put m (.smap [])).put q (cbox m false) = M1 at k1 k2 k3 k4 hE1 ⊢
  clear g1 g2 hE
  ((iterate 3 (apply s_q; decide; rfl; (simp only [go_sem, k1]; rfl))); refine s_nil (hK _ _ ?_); clear hK K; apply AWp_block)
  refine AWp_loop_s (σ := Nat × AHeap) [1, 2, 3, 4, 23, 24, 25] (fun s => [ptrTo p, ptrTo r, .v (.int .i64 0), ptrTo q, .sl false (c.keys.map strCells), .v (.int .i64 (c.keys.length : Nat)), .v (.int .i64 s.1)]) (fun s => s.2) (fun s => c.keys.length - s.1)
    (fun s => s.1 ≤ c.keys.length ∧ s.2.get p = some (jbox c.kind c.int c.text (.sl false (c.keys.map strCells)) (.sl false (c.list.map J.cells))) ∧ s.2.get r = some lvz ∧ s.2.get m = some (.smap (kvE (z.take s.1))) ∧ s.2.get q = some (cbox m false) ∧ Ext H s.2)
    (0, M1) ⟨Nat.zero_le _, k1, k2, k3, k4, hE1⟩ (by simp only [getAll, List.map_cons, List.map_nil, AFr.get, reduceIte, Nat.reduceEqDiff, List.length_map]; rfl) rfl (fun s hs => ?_)
  obtain ⟨n, L⟩ := s
  obtain ⟨hn, hpL, hrL, hmL, hqL, hEL⟩ := hs
  simp only [List.zip_cons_cons, List.zip_nil_right] at hn hpL hrL hmL hqL hEL ⊢
  clear k1 k2 k3 k4 hE1
  (apply sR; intro K hK; refine qr ?_; refine s_nil (hK _ _ ?_); clear hK K; apply sK; intro K hK)
  refine cs (fun hd => ?_) (fun hd => ?_)
  · have hlt : n < c.keys.length := by simpa using hd
    obtain ⟨ky, hky⟩ := gete hlt
    have hgk := jstr_at hky
    obtain ⟨x, hx⟩ := gete (l := c.list) (i := n) (by omega)
    have hgx := jget_at hx
    have hzn : z[n]? = some (ky, x) := by rw [hz, List.getElem?_zip_eq_some]; exact ⟨hky, hx⟩
    have ht : z.take (n + 1) = z.take n ++ [(ky, x)] := take_succ hzn
    (refine AWp_skip (hK _ _ ?_); clear hK K; apply sK; intro K hK; apply AWp_block; apply sR; intro K hK; (iterate 5 (apply s_q; decide; rfl; (simp only [go_sem, hgk, hqL, hpL]; rfl))); refine s_nil (hK _ _ ?_); clear hK K)
    apply AWp_drawA [0, 1, 2, 3, 4, 5, 6, 7, 8, 9] [10] 0 (by exact mixed); kernel_rfl; (iterate 2 (simp only [go_sem]; rfl))
    ((iterate 10 (apply e_q; decide; (simp only [go_sem, hpL, hqL, hmL, hgx]; rfl))); apply e_nil; apply t_mapput; rfl; (iterate 4 (simp only [go_sem, hpL, hqL, hmL, hgx]; rfl)); refine t_nil (hK _ _ ?_); clear hK K; apply s_region; (iterate 2 (apply s_q; decide; rfl; (simp only [go_sem, hpL, hqL, hmL, hgx]; rfl))); apply s_nil; simp only [AThen, ABlock])
    refine ⟨(n + 1, _), by simp only; omega, ⟨by simp only; omega, get_other hpL hpm, get_other hrL hrm, ?_, get_other hqL hmq.symm, hEL.over hHm⟩, ?_, by trivial⟩
    · simp only [ht]
      rw [show kvE (z.take n ++ [(ky, x)]) = kput ky (.agg x.cells) (kvE (z.take n)) by rw [kvE, List.foldl_append]; rfl, J.cells_eq]
      exact AHeap.get_put_same _ _ _
    · simp only [getAll, List.map, AFr.get, reduceIte, Nat.reduceEqDiff]
      rw [wrapS hlt (by omega)]; try rfl
  · have hge : c.keys.length ≤ n := by simpa using hd
    have htk : z.take n = z := List.take_of_length_le (by rw [hz, List.length_zip]; omega)
    rw [htk] at hmL
    (apply AWp_exit; simp only [AThen, ABlock, reduceIte, Nat.reduceEqDiff])
    refine hK1 _ _ ?_
    have hrq : r ≠ q := by rintro rfl; rw [hrL] at hqL; cases hqL
    have hmm : ∀ b, (L.put q (cbox m b)).get m = some (.smap (kvE z)) := fun b => get_other hmL hmq
    have hL : L = L.put q (cbox m false) := (put_self hqL).symm
    rw [hL]
    rw [← hz] at h
    have hkv := fun k => kvE_find k z
    obtain ⟨G, hG⟩ : ∃ G, G = jlast z := ⟨_, rfl⟩
    rw [← hG] at h hkv
    have hnm : ∀ (k : List UInt8) (x : J), G k = some x → (x.keys.length ≤ 1000000000 ∧ x.keys.length ≤ x.list.length) ∧ ∀ k ∈ x.keys, k.length < 4294967281 := fun k x hx => by
      rw [hG] at hx
      rcases jlast_mem (o := none) hx with hx | ⟨pr, hpr1, hpr2⟩
      · cases hx
      obtain ⟨ky, y⟩ := pr
      rw [hz] at hpr1
      have hyc := (List.of_mem_zip hpr1).2
      have hy2 : y = x := hpr2
      subst hy2
      rw [hcc] at hyc
      obtain ⟨w, hw, rfl⟩ := ord_list h5 (shaped_map (good_shaped hg) h5).1 hyc
      obtain ⟨mm, _, hgl⟩ := good_list hg
      exact ord_keys (hgl w hw) ((fit_eq.1 hf).2.2.2 w hw) (hs.2 w hw)
    have hrr : ∀ b, (L.put q (cbox m b)).get r = some lvz := fun b => get_other hrL hrq
    have hEE : ∀ b, Ext H (L.put q (cbox m b)) := fun b => hEL.over hHq
    (apply sR; intro K hK; apply s_q; decide; rfl; (simp only [go_sem, hrL]; rfl); apply s_call; decide; (iterate 2 (simp only [go_sem, hrL]; rfl)); refine number_c q m _ _ _ _ (hkv _) _ _ (AHeap.get_put_same _ _ _) (hmm _) _ ?_; rw [AHeap.put_put]; apply s_q; decide; rfl; (simp only [go_sem, hrL]; rfl); apply s_call; decide; (iterate 2 (simp only [go_sem, hrL]; rfl)); refine number_c q m _ _ _ _ (hkv _) _ _ (AHeap.get_put_same _ _ _) (hmm _) _ ?_; rw [AHeap.put_put]; apply s_q; decide; rfl; (simp only [go_sem, hrL]; rfl); apply s_call; decide; (iterate 2 (simp only [go_sem, hrL]; rfl)); refine number_c q m _ _ _ _ (hkv _) _ _ (AHeap.get_put_same _ _ _) (hmm _) _ ?_; rw [AHeap.put_put]; apply s_q; decide; rfl; (simp only [go_sem, hrL]; rfl); apply s_call; decide; (iterate 2 (simp only [go_sem, hrL]; rfl)); refine number_c q m _ _ _ _ (hkv _) _ _ (AHeap.get_put_same _ _ _) (hmm _) _ ?_; rw [AHeap.put_put]; apply s_q; decide; rfl; (simp only [go_sem, hrL]; rfl); apply s_call; decide; (iterate 2 (simp only [go_sem, hrL]; rfl)); refine number_c q m _ _ _ _ (hkv _) _ _ (AHeap.get_put_same _ _ _) (hmm _) _ ?_; rw [AHeap.put_put]; apply s_q; decide; rfl; (simp only [go_sem, hrL]; rfl); apply s_call; decide; (iterate 2 (simp only [go_sem, hrL]; rfl)); refine number_c q m _ _ _ _ (hkv _) _ _ (AHeap.get_put_same _ _ _) (hmm _) _ ?_; rw [AHeap.put_put]; apply s_q; decide; rfl; (simp only [go_sem, hrL]; rfl); apply s_call; decide; (iterate 2 (simp only [go_sem, hrL]; rfl)); refine number_c q m _ _ _ _ (hkv _) _ _ (AHeap.get_put_same _ _ _) (hmm _) _ ?_; rw [AHeap.put_put]; apply s_q; decide; rfl; (simp only [go_sem, hrL]; rfl); apply s_call; decide; (iterate 2 (simp only [go_sem, hrL]; rfl)); refine names_c q m _ _ _ _ (hkv _) _ isUserB (fun l hl H K hk => puserB_c l hl H K hk) (hnm _) _ (AHeap.get_put_same _ _ _) (hmm _) _ ?_; rw [AHeap.put_put]; apply s_q; decide; rfl; (simp only [go_sem, hrL]; rfl); apply s_call; decide; (iterate 2 (simp only [go_sem, hrL]; rfl)); refine names_c q m _ _ _ _ (hkv _) _ isType (fun l hl H K hk => type_c l H K hk) (hnm _) _ (AHeap.get_put_same _ _ _) (hmm _) _ ?_; rw [AHeap.put_put]; apply s_q; decide; rfl; (simp only [go_sem, hrL]; rfl); apply s_alloc; decide; exact zc_58; intro b hb; apply s_store; (iterate 3 (simp only [go_sem, hrL]; rfl)); refine s_nil (hK _ _ ?_); clear hK K; apply sK; intro K hK; apply sR; intro K hK; (iterate 3 (apply s_q; decide; rfl; (simp only [go_sem, hrL]; rfl))))
    have gq := fun (o : AObj) => get_fresh (x := o) (AHeap.get_put_same q (cbox m _) L) hb
    have gr := fun (o : AObj) => get_fresh (x := o) (hrr _) hb
    have gE := fun (o : AObj) => (hEE _).put (ob := o) hb
    (apply s_q; decide; rfl; (simp only [go_sem, gq]; rfl); refine s_nil (hK _ _ ?_); clear hK K)
    refine cs (fun hb9 => ?_) (fun hb9 => ?_)
    · have hn : lvOf G = none := by unfold lvOf; exact if_pos hb9
      rw [hn] at h
      (apply sR; intro K hK; apply s_q; decide; rfl; (simp only [go_sem, zc_levels, gr]; rfl); apply s_store; (iterate 3 (simp only [go_sem, zc_levels, gr]; rfl)); apply s_q; decide; rfl; (simp only [go_sem, zc_levels, gr]; rfl); refine s_nil (hK _ _ ?_); clear hK K; apply AWp_ret)
      try simp only [AThen, ABlock]
      refine end_ret (av := .tup [.agg [.v (.int .i64 0), .v (.int .i64 0), .v (.int .i64 0), .v (.int .i64 0), .v (.int .i64 0), .v (.int .i64 0), .v (.int .i64 0), .sl true [], .sl true []], .v (.int .i64 1)]) (by show resAV X.P _ _ [.cell 2 58, .tmp 3] = _; simp only [go_sem]; try rfl) ⟨_, _, Snap.trans Snap.loosen (Snap.drop ((gE _).over hHr)), h⟩
    · have hn := show lvOf G = some _ by unfold lvOf; exact if_neg (by rw [hb9]; decide)
      rw [hn] at h
      (refine AWp_skip (hK _ _ ?_); clear hK K; apply sR; intro K hK; apply s_q; decide; rfl; (simp only [go_sem, gr]; rfl); apply s_store; (iterate 3 (simp only [go_sem, gr]; rfl)); apply s_q; decide; rfl; (simp only [go_sem, gr]; rfl); refine s_nil (hK _ _ ?_); clear hK K; apply AWp_ret)
      try simp only [AThen, ABlock]
      refine end_ret (by show resAV X.P _ _ [.cell 2 58, .tmp 3] = _; simp only [go_sem]; try rfl) ⟨_, _, Snap.drop ((gE _).over hHr), h⟩

def jGet (j : J) (key : List UInt8) : Option J := if j.kind = 5 then ((j.keys.zip j.list).find? fun p => decide (p.1 = key)).map (·.2) else none
def getRes (o : Option J) : AV := match o with | some x => .tup [.agg x.cells, .v (.bool true)] | none => .tup [.agg (J.mk 0 0 [] [] []).cells, .v (.bool false)]
set_option maxHeartbeats 2000000 in
theorem get_c (j : J) (hl : j.keys.length ≤ 9223372036854775807 ∧ j.list.length ≤ 9223372036854775807) (key : List UInt8) (H : AHeap) (Kc : AV → AHeap → Prop) (h : Kc (getRes (jGet j key)) H) : ACall X 66 [.agg j.cells, .s key] H Kc := by
  refine ACall.post ?_
  rw [J.cells_eq]
  refine ACall_intro Tryz.func66 rfl (by kernel_rfl) (by rw [Tryz.ntmps66]; simp) ?_; rw [Tryz.ntmps66]; simp only [frame0, Nat.reduceAdd]
  apply sR; intro K hK
  apply s_box; decide; exact (by simp only [go_sem]; try rfl); exact (by simp only [go_sem]; try rfl); intro p hp
  apply s_alloc; decide; exact zc_json; intro r hr
  (refine qr ?_; refine s_nil (hK _ _ ?_); clear hK K; apply sK; intro K hK; apply sR; intro K hK; refine qr ?_)
  have g1 := get_fresh (AHeap.get_put_same p (jbox j.kind j.int j.text (.sl false (j.keys.map strCells)) (.sl false (j.list.map J.cells))) H) hr (x := jbox 0 0 [] (.sl true []) (.sl true []))
  have g2 := AHeap.get_put_same r (jbox 0 0 [] (.sl true []) (.sl true [])) (H.put p (jbox j.kind j.int j.text (.sl false (j.keys.map strCells)) (.sl false (j.list.map J.cells))))
  have hE := (Ext.fresh hp (o := jbox j.kind j.int j.text (.sl false (j.keys.map strCells)) (.sl false (j.list.map J.cells)))).put hr (ob := jbox 0 0 [] (.sl true []) (.sl true []))
  have hHr : H.get r = none := none_fresh hr
  generalize (H.put p (jbox j.kind j.int j.text (.sl false (j.keys.map strCells)) (.sl false (j.list.map J.cells)))).put r (jbox 0 0 [] (.sl true []) (.sl true [])) = M at g1 g2 hE ⊢
  rw [jGet] at h
  ((iterate 2 (apply s_q; decide; rfl; (simp only [go_sem, g1]; rfl))); refine s_nil (hK _ _ ?_); clear hK K)
  refine cs (fun hc => ?_) (fun hc => ?_)
  · have h5 : ¬ j.kind = 5 := by simpa using hc
    rw [if_neg h5] at h
    (apply sR; intro K hK; apply s_q; decide; rfl; (simp only [go_sem, zc_json, g2]; rfl); apply s_store; (iterate 3 (simp only [go_sem, zc_json, g2]; rfl)); apply s_q; decide; rfl; (simp only [go_sem, zc_json, g2]; rfl); refine s_nil (hK _ _ ?_); clear hK K; apply AWp_ret)
    try simp only [AThen, ABlock]
    refine end_ret (av := .tup [.agg [.v (.int .i64 0), .v (.int .i64 0), .s [], .sl true [], .sl true []], .v (.bool false)]) (by show resAV X.P _ _ [.cell 4 25, .tmp 5] = _; simp only [go_sem]; try rfl) ⟨_, _, Snap.trans Snap.loosen (Snap.drop (hE.over hHr)), h⟩
  have h5 : j.kind = 5 := by simpa using hc
  rw [if_pos h5] at h
  (refine AWp_skip (hK _ _ ?_); clear hK K; apply sK; intro K hK; apply sR; intro K hK; refine qr ?_; refine s_nil (hK _ _ ?_); clear hK K; apply AWp_block)
  have hzl : (j.keys.zip j.list).length = min j.keys.length j.list.length := List.length_zip
  refine AWp_loop_s (σ := Nat) [1, 2, 4, 5, 6] (fun i => [.s key, ptrTo p, ptrTo r, .v (.bool false), .v (.int .i64 i)]) (fun _ => M) (fun i => (j.keys.zip j.list).length - i) (fun i => i ≤ (j.keys.zip j.list).length ∧ ∀ x ∈ (j.keys.zip j.list).take i, decide (x.1 = key) = false) 0 ⟨Nat.zero_le _, by simp⟩ rfl rfl (fun i hi => ?_)
  obtain ⟨hi, hno⟩ := hi
  simp only [List.zip_cons_cons, List.zip_nil_right]
  (apply sK; intro K hK; apply sR; intro K hK; (iterate 6 (apply s_q; decide; rfl; (simp only [go_sem, g1]; rfl))); (iterate 2 (apply s_spec; decide; rfl; rfl; (iterate 4 (simp only [go_sem, g1]; rfl)); trivial)); (iterate 3 (apply s_spec; decide; rfl; rfl; (iterate 4 (simp only [go_sem, g1]; rfl)); simp [condsOk])); apply s_pick; decide; (iterate 6 (simp only [go_sem, g1]; rfl)); trivial; simp [condsOk]; trivial; refine s_nil (hK _ _ ?_); clear hK K)
  refine cs (fun hd => ?_) (fun hd => ?_)
  · have hlt : i < j.keys.length ∧ i < j.list.length := by simp at hd; omega
    obtain ⟨ky, hky⟩ := gete hlt.1
    obtain ⟨x, hx⟩ := gete hlt.2
    have hgk := jstr_at hky
    have hgx := jget_at hx
    have hz : (j.keys.zip j.list)[i]? = some (ky, x) := by rw [List.getElem?_zip_eq_some]; exact ⟨hky, hx⟩
    (refine AWp_skip (hK _ _ ?_); clear hK K; apply sK; intro K hK; apply AWp_block; apply sR; intro K hK; (iterate 7 (apply s_q; decide; rfl; (simp only [go_sem, g1, hgk]; rfl))); refine s_nil (hK _ _ ?_); clear hK K)
    refine cs (fun hq => ?_) (fun hq => ?_)
    · have hf : (j.keys.zip j.list).find? (fun p => decide (p.1 = key)) = some (ky, x) := by
        obtain ⟨hi', he⟩ := List.getElem?_eq_some_iff.1 hz
        rw [List.find?_eq_some_iff_getElem]
        refine ⟨hq, i, hi', he, fun k hk => ?_⟩
        have := hno _ (List.mem_take_iff_getElem.2 ⟨k, by omega, rfl⟩)
        simpa using this
      rw [hf] at h
      (apply sR; intro K hK; (iterate 5 (apply s_q; decide; rfl; (simp only [go_sem, g1, g2, hgx]; rfl))); apply s_store; (iterate 3 (simp only [go_sem, g1, g2, hgx]; rfl)); apply s_q; decide; rfl; (simp only [go_sem, g1, g2, hgx]; rfl); refine s_nil (hK _ _ ?_); clear hK K; apply AWp_ret)
      try simp only [AThen, ABlock]
      refine end_ret (av := .tup [.agg x.cells, .v (.bool true)]) (by show resAV X.P _ _ [.cell 4 25, .tmp 5] = _; simp only [go_sem, J.cells_eq x]; try rfl) ⟨_, _, Snap.drop (hE.over hHr), h⟩
    · (refine AWp_skip (hK _ _ ?_); clear hK K; apply s_region; (iterate 3 (refine qr ?_)); apply s_nil; simp only [AThen, ABlock])
      refine ⟨i + 1, by omega, ⟨by omega, ?_⟩, ?_, by trivial⟩
      · rw [List.take_add_one, hz]
        intro y hy
        rcases List.mem_append.1 hy with hy | hy
        · exact hno y hy
        · simp at hy; subst hy; exact hq
      · simp only [getAll, List.map, AFr.get, reduceIte, Nat.reduceEqDiff]
        rw [wrapS hlt.1 (by omega)]; try rfl
  · have hge : (j.keys.zip j.list).length ≤ i := by simp at hd; omega
    rw [List.take_of_length_le hge] at hno
    have hf : (j.keys.zip j.list).find? (fun p => decide (p.1 = key)) = none := by rw [List.find?_eq_none]; intro x hx; simp [hno x hx]
    rw [hf] at h
    (apply AWp_exit; simp only [AThen, ABlock, reduceIte, Nat.reduceEqDiff]; clear hK K; refine hK _ _ ?_; clear hK K; apply sR; intro K hK; apply s_q; decide; rfl; (simp only [go_sem, zc_json, g2]; rfl); apply s_store; (iterate 3 (simp only [go_sem, zc_json, g2]; rfl)); apply s_q; decide; rfl; (simp only [go_sem, zc_json, g2]; rfl); refine s_nil (hK _ _ ?_); clear hK K; apply AWp_ret)
    try simp only [AThen, ABlock]
    refine end_ret (av := .tup [.agg [.v (.int .i64 0), .v (.int .i64 0), .s [], .sl true [], .sl true []], .v (.bool false)]) (by show resAV X.P _ _ [.cell 4 25, .tmp 5] = _; simp only [go_sem]; try rfl) ⟨_, _, Snap.trans Snap.loosen (Snap.drop (hE.over hHr)), h⟩
end Go.Proofs.YtcpfgjfiacfmoaaGreatDoor

set_option linter.unusedSimpArgs false
set_option linter.unusedVariables false
set_option maxRecDepth 100000
namespace Go.Proofs.YtcpfgjfiacfmoaaGreatDoor
open Go Go.AL

theorem jlast_none {k : List UInt8} : ∀ {l : List (List UInt8 × J)} {o : Option J}, (∀ p ∈ l, p.1 ≠ k) → l.foldl (fun o p => if p.1 = k then some p.2 else o) o = o
  | [], o, _ => rfl
  | p :: l, o, h => by
    rw [List.foldl_cons, if_neg (h p (by simp))]
    exact jlast_none (fun q hq => h q (by simp [hq]))
theorem jlast_of {l : List (List UInt8 × J)} {k : List UInt8} {x : J} (hn : (l.map (·.1)).Nodup) (hm : (k, x) ∈ l) : jlast l k = some x := by
  obtain ⟨a, b, rfl⟩ := List.append_of_mem hm
  rw [jlast, List.foldl_append, List.foldl_cons, if_pos rfl]
  refine jlast_none (fun p hp => ?_)
  rintro rfl
  rw [List.map_append, List.map_cons] at hn
  have h2 := (List.nodup_append.1 hn).2.1
  rw [List.nodup_cons] at h2
  exact h2.1 (List.mem_map.2 ⟨p, hp, rfl⟩)
theorem jlast_not {l : List (List UInt8 × J)} {k : List UInt8} (h : ∀ p ∈ l, p.1 ≠ k) : jlast l k = none := jlast_none h
theorem ord_zip {j : J} (h5 : j.kind = 5) : j.ord.keys.zip j.ord.list = (placesOf j.keys).map fun i => (j.keys.getD i [], (j.list.map J.ord).getD i (.mk 0 0 [] [] [])) := by
  rw [ord_eq, if_pos h5]
  simp only [J.keys, J.list]
  exact List.zip_map'
theorem places_nodup (ks : List (List UInt8)) : (placesOf ks).Nodup := (places_perm ks).nodup_iff.2 List.nodup_range
theorem places_mem {ks : List (List UInt8)} {i : Nat} (h : i < ks.length) : i ∈ placesOf ks := (places_perm ks).mem_iff.2 (List.mem_range.2 h)
theorem ord_nodup {j : J} (h5 : j.kind = 5) (hn : j.keys.Nodup) : ((j.ord.keys.zip j.ord.list).map (·.1)).Nodup := by
  rw [ord_zip h5, List.map_map]
  refine List.pairwise_map.2 ((places_nodup j.keys).imp_of_mem fun {a b} ha hb hab e => hab ?_)
  exact nodup_getD hn (places_lt ha) (places_lt hb) e
theorem look {j : J} {n : Nat} (hg : goodB n j = true) (h5 : j.kind = 5) (k : List UInt8) : jlast (j.ord.keys.zip j.ord.list) k = (jGet j k).map J.ord := by
  obtain ⟨s1, s2, _⟩ := shaped_map (good_shaped hg) h5
  rw [jGet, if_pos h5]
  cases hf : (j.keys.zip j.list).find? (fun p => decide (p.1 = k)) with
  | none =>
    rw [List.find?_eq_none] at hf
    refine jlast_not fun p hp => ?_
    rw [ord_zip h5] at hp
    obtain ⟨i, hi, rfl⟩ := List.mem_map.1 hp
    have hlt := places_lt hi
    have hm : (j.keys[i], j.list[i]'(by omega)) ∈ j.keys.zip j.list := List.mem_iff_getElem.2 ⟨i, by rw [List.length_zip]; omega, by simp⟩
    have := hf _ hm
    simp only [decide_eq_true_eq] at this
    simp only [List.getD_eq_getElem?_getD, List.getElem?_eq_getElem hlt]
    exact this
  | some p =>
    obtain ⟨k', x⟩ := p
    have e : k' = k := by simpa using List.find?_some hf
    subst e
    obtain ⟨i, hi, he⟩ := List.mem_iff_getElem.1 (List.mem_of_find?_eq_some hf)
    rw [List.length_zip] at hi
    rw [List.getElem_zip] at he
    obtain ⟨e1, e2⟩ := Prod.mk.inj he
    show _ = some x.ord
    refine jlast_of (ord_nodup h5 s2) ?_
    rw [ord_zip h5]
    refine List.mem_map.2 ⟨i, places_mem (by omega), ?_⟩
    rw [List.getD_eq_getElem?_getD, List.getD_eq_getElem?_getD, List.getElem?_map, List.getElem?_eq_getElem (by omega : i < j.keys.length), List.getElem?_eq_getElem (by omega : i < j.list.length), e1, e2]
    rfl
def putJ (c : J) (k : List UInt8) (m : J) : J := .mk 5 0 [] (c.keys ++ [k]) (c.list ++ [m])
theorem put_kind (c m : J) (k : List UInt8) : (putJ c k m).kind = 5 := rfl
theorem put_keys (c m : J) (k : List UInt8) : (putJ c k m).keys = c.keys ++ [k] := rfl
theorem put_list (c m : J) (k : List UInt8) : (putJ c k m).list = c.list ++ [m] := rfl
theorem get_put {c m : J} {k : List UInt8} (h5 : c.kind = 5) (hl : c.keys.length = c.list.length) (hnew : jGet c k = none) (q : List UInt8) : jGet (putJ c k m) q = if q = k then some m else jGet c q := by
  have e : (c.keys ++ [k]).zip (c.list ++ [m]) = c.keys.zip c.list ++ [(k, m)] := by rw [List.zip_append hl]; rfl
  rw [jGet, if_pos h5] at hnew
  rw [jGet, jGet, if_pos h5]
  simp only [put_kind, put_keys, put_list, if_true, e, List.find?_append]
  by_cases h : q = k
  · subst h
    rw [if_pos rfl]
    have : (c.keys.zip c.list).find? (fun p => decide (p.1 = q)) = none := by simpa using hnew
    rw [this]; simp
  · rw [if_neg h]
    cases (c.keys.zip c.list).find? (fun p => decide (p.1 = q)) with
    | some p => rfl
    | none => simp [Ne.symm h]
theorem lvParse_look {c : J} (h5 : c.kind = 5) (hg : goodB 12 c = true) : lvParse c = lvOf (fun k => (jGet c k).map J.ord) := by
  rw [lvParse, if_pos h5, if_pos hg]
  congr 1
  funext k
  exact look hg h5 k
end Go.Proofs.YtcpfgjfiacfmoaaGreatDoor
