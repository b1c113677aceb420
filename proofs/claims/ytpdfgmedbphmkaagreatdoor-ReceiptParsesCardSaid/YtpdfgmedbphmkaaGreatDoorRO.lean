/-
  The document's order: order, Order. Contracts.
-/
import Derived.Test.YtpdfgmedbphmkaaGreatDoorRB
import Derived.Test.YtpdfgmedbphmkaaGreatDoorAL4
set_option linter.unusedSimpArgs false
set_option linter.unusedVariables false
set_option maxRecDepth 100000
namespace Go.Proofs.YtpdfgmedbphmkaaGreatDoor
open Go Go.AL
attribute [local irreducible] AOps AWp SOps AE AT ACall AApp

theorem pl_nodup (ks : List (List UInt8)) : (placesOf ks).Nodup := (places_perm ks).nodup_iff.2 List.nodup_range
theorem pl_mem {ks : List (List UInt8)} {i : Nat} (h : i < ks.length) : i ∈ placesOf ks := (places_perm ks).mem_iff.2 (List.mem_range.2 h)
theorem place_min {ks : List (List UInt8)} (hn : ks.Nodup) {n b : Nat} (hlt : n < ks.length) (hb : b < ks.length) (hbn : b ∉ (placesOf ks).take n) (hmin : ∀ k, k < ks.length → k ∉ (placesOf ks).take n → ks.getD b [] ≤ ks.getD k []) : (placesOf ks)[n]? = some b := by
  have hl := places_len ks
  have hbm := pl_mem hb
  obtain ⟨m, hm, he⟩ := List.mem_iff_getElem.1 hbm
  have hnm : n ≤ m := by
    rcases Nat.lt_or_ge m n with h | h
    · exact absurd (List.mem_take_iff_getElem.2 ⟨m, by omega, he⟩) hbn
    · exact h
  obtain ⟨a, ha⟩ := gete (l := placesOf ks) (i := n) (by omega)
  have ham := List.mem_of_getElem? ha
  have han : a ∉ (placesOf ks).take n := fun h => by
    obtain ⟨k, hk, hke⟩ := List.mem_take_iff_getElem.1 h
    have h2 := (List.getElem?_eq_some_iff.1 ha)
    obtain ⟨h3, h4⟩ := h2
    have := (List.getElem_inj (pl_nodup ks)).1 (hke.trans h4.symm)
    omega
  have h1 := hmin a (places_lt ham) han
  have h2 : ks.getD a [] ≤ ks.getD b [] := by
    rcases Nat.lt_or_eq_of_le hnm with h | h
    · have hp := places_sorted ks
      rw [List.pairwise_iff_getElem] at hp
      have := hp n m (by omega) hm h
      rw [he] at this
      rw [(List.getElem?_eq_some_iff.1 ha).2] at this
      exact this
    · subst h
      rw [List.getElem?_eq_getElem hm, he] at ha
      cases ha
      exact List.le_refl _
  have := nodup_getD hn (places_lt ham) hb (List.le_antisymm h2 h1)
  rw [ha, this]
/-- a row of another type that is written leaves a row where it lies -/
theorem _root_.Go.AL.RowAt.set {e sz e' sz' c : Nat} {sn : Bool} {es0 : List (List AV)} {H0 L : AHeap} {es : List (List AV)} {a : AV} (h : RowAt e sz H0 L es a) (hc : L.get c = some (.row e' sz' sn es0)) (o' : AObj) (he : e ≠ e') : RowAt e sz H0 (L.put c o') es a := by
  rcases h with h | ⟨b, h1, h2, h3⟩
  · exact .inl h
  · refine .inr ⟨b, h1, h2, ?_⟩
    rw [AHeap.get_put]
    split
    · rename_i e1; subst e1; rw [hc] at h3; cases h3; exact absurd rfl he
    · exact h3
def boolCells (b : Bool) : List AV := [.v (.bool b)]
abbrev doneRow (ks : List (List UInt8)) (n : Nat) : AObj := .row 4 1 false ((List.range ks.length).map fun k => boolCells (decide (k ∈ (placesOf ks).take n)))
def lstI : Option Nat → Int
  | none => -1
  | some b => (b : Int)
def lstOk (ks : List (List UInt8)) (m i : Nat) : Option Nat → Prop
  | none => ∀ k, k < i → k ∈ (placesOf ks).take m
  | some b => b < i ∧ b ∉ (placesOf ks).take m ∧ ∀ k, k < i → k ∉ (placesOf ks).take m → ks.getD b [] ≤ ks.getD k []
set_option maxHeartbeats 8000000 in
theorem rorder_c : ∀ (n : Nat) (j : J), goodB n j = true → J.Fit j → ∀ (H : AHeap) (Kc : AV → AHeap → Prop), Kc (.agg j.ord.cells) H → ACall X 24 [.agg j.cells] H Kc := fun n => by
  induction n with
  | zero => intro j h; cases h
  | succ n ih =>
  intro j hg hf H Kc h
  obtain ⟨⟨f1, f1'⟩, f2, f3, f4⟩ := fit_eq.1 hf
  have hsh := good_shaped hg
  have hch : ∀ x ∈ j.list, goodB n x = true := by
    simp only [goodB, Bool.and_eq_true, List.all_eq_true] at hg; exact hg.2
  refine ACall.post ?_
  rw [J.cells_eq]
  refine ACall_intro Tryz.func24 rfl (by kernel_rfl) (by rw [Tryz.ntmps24]; simp) ?_; rw [Tryz.ntmps24]; simp only [frame0, Nat.reduceAdd]
  refine AWp_seq_k (fun K hK => ?_); apply s_region
  apply s_box; decide; exact (by simp only [go_sem]; try rfl); exact (by simp only [go_sem]; try rfl); intro p hp
  apply s_alloc; decide; exact zc_json; intro r hr
  apply s_nil; simp only [AThen, ABlock]; refine hK _ _ ?_; clear hK K
  have g1 := get_fresh (AHeap.get_put_same p (jbox j.kind j.int j.text (.sl false (j.keys.map strCells)) (.sl false (j.list.map J.cells))) H) hr (x := jbox 0 0 [] (.sl true []) (.sl true []))
  have g2 := AHeap.get_put_same r (jbox 0 0 [] (.sl true []) (.sl true [])) (H.put p (jbox j.kind j.int j.text (.sl false (j.keys.map strCells)) (.sl false (j.list.map J.cells))))
  have g3 := (Ext.fresh hp (o := jbox j.kind j.int j.text (.sl false (j.keys.map strCells)) (.sl false (j.list.map J.cells)))).put hr (ob := jbox 0 0 [] (.sl true []) (.sl true []))
  have hHr : H.get r = none := none_fresh hr
  generalize (H.put p (jbox j.kind j.int j.text (.sl false (j.keys.map strCells)) (.sl false (j.list.map J.cells)))).put r (jbox 0 0 [] (.sl true []) (.sl true [])) = M at g1 g2 g3 ⊢
  refine AWp_seq_k (fun K hK => ?_); apply s_region
  ((iterate 7 (apply s_q; decide; rfl; (simp only [go_sem, g1]; rfl))); apply s_alloc; decide; exact zc_25; intro b hb; apply s_store; (simp only [go_sem, g1]; rfl); (simp only [go_sem, g1]; rfl); (simp only [go_sem, g1]; rfl))
  apply s_nil; simp only [AThen, ABlock]; refine hK _ _ ?_; clear hK K
  obtain ⟨o, hoe⟩ : ∃ b3, b3 = b := ⟨_, rfl⟩
  have ho := hb
  rw [← hoe] at ho ⊢
  clear hb hoe b
  have k1 := get_fresh g1 ho (x := jbox j.kind j.int j.text (.sl true []) (.sl true []))
  have k2 := get_fresh g2 ho (x := jbox j.kind j.int j.text (.sl true []) (.sl true []))
  have k3 := AHeap.get_put_same o (jbox j.kind j.int j.text (.sl true []) (.sl true [])) M
  have k4 := g3.put ho (ob := jbox j.kind j.int j.text (.sl true []) (.sl true []))
  have hHo : H.get o = none := none_of_ext g3 ho
  have hpo := get_ne_fresh g1 ho
  have hro := get_ne_fresh g2 ho
  generalize M.put o (jbox j.kind j.int j.text (.sl true []) (.sl true [])) = M2 at k1 k2 k3 k4 ⊢
  clear g1 g2 g3 ho M
  refine AWp_seq_k (fun K0 hK0 => ?_)
  have hgo : ∀ (ys : List J) (c : AV) (L : AHeap), (j.keys = [] → j.ord = .mk j.kind j.int j.text [] ys) → (¬ j.keys = [] → j.kind = 5 ∧ ys = []) → ys.length ≤ 1000000000 → Ext H L → L.get p = some (jbox j.kind j.int j.text (.sl false (j.keys.map strCells)) (.sl false (j.list.map J.cells))) → L.get r = some (jbox 0 0 [] (.sl true []) (.sl true [])) →
      L.get o = some (jbox j.kind j.int j.text (.sl true []) c) → RowAt 25 5 H L (ys.map J.cells) c → ∀ fr, getAll [1, 2, 3] fr = [ptrTo p, ptrTo r, ptrTo o] → K0 fr L := fun ys c L hnil hcons hys hE hpL hrL hoL hR fr hfr => by
    refine hK0 _ _ (AWp_cut _ hfr ?_)
    simp only [List.zip_cons_cons, List.zip_nil_right]
    clear k1 k2 k3 k4 hK0
    have hll : (j.keys.map strCells).length = j.keys.length := List.length_map ..
    obtain ⟨N, hN⟩ : ∃ N, N = j.keys.length := ⟨_, rfl⟩
    refine AWp_seq_k (fun K hK => ?_); apply s_region
    ((iterate 3 (apply s_q; decide; rfl; (simp only [go_sem, hpL]; rfl))))
    rw [← hN]
    apply s_make; decide; exact el_72; exact (by simp only [go_sem]; try rfl); exact (by simp only [go_sem]; try rfl); exact zc_4; (refine ⟨by omega, by omega, by decide⟩); intro q hq
    have hHq : H.get q = none := none_of_ext hE hq
    have hpq := get_ne_fresh hpL hq
    have hrq := get_ne_fresh hrL hq
    have hoq := get_ne_fresh hoL hq
    generalize hgenq : AHeap.put q _ L = L0
    obtain ⟨hqL0, hextq⟩ := gen_ex hgenq hq
    have hpL0 := hextq _ _ hpL
    have hrL0 := hextq _ _ hrL
    have hoL0 := hextq _ _ hoL
    have hE0 := hE.trans hextq
    have hR0 := hR.ext hextq
    rw [Int.toNat_natCast, range_const] at hqL0
    clear hextq hgenq hpL hrL hoL hE hR hq
    (apply s_q; decide; rfl; (simp only [go_sem]; rfl); apply s_nil; simp only [AThen, ABlock]; refine hK _ _ ?_; clear hK K; (iterate 2 (refine AWp_seq_k (fun K hK => ?_))); apply s_region; apply s_q; decide; rfl; (simp only [go_sem]; rfl); apply s_nil; simp only [AThen, ABlock]; refine hK _ _ ?_; clear hK K; apply AWp_block)
    have hpll := places_len j.keys
    have hconv : (∀ i, i < j.keys.length → j.kind = 5) := fun i hi => (hcons (by rintro h; rw [h] at hi; cases hi)).1
    have hys2 : (∀ i, i < j.keys.length → ys = []) := fun i hi => (hcons (by rintro h; rw [h] at hi; cases hi)).2
    refine AWp_loop_s (σ := Nat × AV × AV × AHeap) [1, 2, 3, 5, 6] (fun s => [ptrTo p, ptrTo r, ptrTo o, .row q 1 N, .v (.int .i64 ((s.1 : Nat) : Int))]) (fun s => s.2.2.2) (fun s => N - s.1)
      (fun s => s.1 ≤ N ∧ Ext H s.2.2.2 ∧ s.2.2.2.get p = some (jbox j.kind j.int j.text (.sl false (j.keys.map strCells)) (.sl false (j.list.map J.cells))) ∧ s.2.2.2.get r = some (jbox 0 0 [] (.sl true []) (.sl true [])) ∧ s.2.2.2.get o = some (jbox j.kind j.int j.text s.2.1 s.2.2.1) ∧
        s.2.2.2.get q = some (doneRow j.keys s.1) ∧ RowAt 9 1 H s.2.2.2 ((((placesOf j.keys).take s.1).map fun i => j.keys.getD i []).map strCells) s.2.1 ∧ RowAt 25 5 H s.2.2.2 ((ys ++ ((placesOf j.keys).take s.1).map fun i => (j.list.map J.ord).getD i (.mk 0 0 [] [] [])).map J.cells) s.2.2.1)
      (0, .sl true [], c, L0) ⟨Nat.zero_le _, hE0, hpL0, hrL0, hoL0, ?_, RowAt.nil _ _ _ _, by simpa using hR0⟩ rfl rfl (fun s hs => ?_)
    · rw [hqL0, hN]
      simp only [doneRow, List.take_zero, List.not_mem_nil, decide_false, boolCells]
    obtain ⟨m, a, c, L⟩ := s
    obtain ⟨hm, hE, hpL, hrL, hoL, hqL, hRa, hRc⟩ := hs
    clear hpL0 hrL0 hoL0 hE0 hR0 hqL0
    simp only [List.zip_cons_cons, List.zip_nil_right] at hm hE hpL hrL hoL hqL hRa hRc ⊢
    ((iterate 2 (refine AWp_seq_k (fun K hK => ?_))); apply s_region; (iterate 5 (apply s_q; decide; rfl; (simp only [go_sem, hpL]; rfl))); apply s_nil; simp only [AThen, ABlock]; refine hK _ _ ?_; clear hK K)
    refine cond_split (by simp only [go_sem]; try rfl) (fun hd => ?_) (fun hd => ?_)
    · have hlt : m < N := by simp at hd; omega
      have h5 := hconv 0 (by omega)
      obtain rfl := hys2 0 (by omega)
      obtain ⟨s1, s2, s3⟩ := shaped_map hsh h5
      simp only [List.nil_append] at hRc
      (apply AWp_skip; simp only [AThen, ABlock]; refine hK _ _ ?_; clear hK K; refine AWp_seq_k (fun K hK => ?_); apply AWp_block; refine AWp_seq_k (fun K hK => ?_); apply s_region; apply s_q; decide; rfl; (simp only [go_sem]; rfl); apply s_nil; simp only [AThen, ABlock]; refine hK _ _ ?_; clear hK K; (iterate 2 (refine AWp_seq_k (fun K hK => ?_))); apply s_region; apply s_q; decide; rfl; (simp only [go_sem]; rfl); apply s_nil; simp only [AThen, ABlock]; refine hK _ _ ?_; clear hK K; apply AWp_block)
      refine AWp_loop_s (σ := Nat × Option Nat) [1, 2, 3, 5, 6, 7, 8] (fun s => [ptrTo p, ptrTo r, ptrTo o, .row q 1 N, .v (.int .i64 ((m : Nat) : Int)), .v (.int .i64 (lstI s.2)), .v (.int .i64 ((s.1 : Nat) : Int))]) (fun _ => L) (fun s => N - s.1)
        (fun s => s.1 ≤ N ∧ lstOk j.keys m s.1 s.2) (0, none) ⟨Nat.zero_le _, fun k hk => absurd hk (Nat.not_lt_zero k)⟩ rfl rfl (fun s hs => ?_)
      obtain ⟨i, w⟩ := s
      obtain ⟨hi, hw⟩ := hs
      simp only [List.zip_cons_cons, List.zip_nil_right] at hi hw ⊢
      ((iterate 2 (refine AWp_seq_k (fun K hK => ?_))); apply s_region; (iterate 5 (apply s_q; decide; rfl; (simp only [go_sem, hpL]; rfl))); apply s_nil; simp only [AThen, ABlock]; refine hK _ _ ?_; clear hK K)
      refine cond_split (by simp only [go_sem]; try rfl) (fun he => ?_) (fun he => ?_)
      · have hli : i < N := by simp at he; omega
        have hgq : ((List.range j.keys.length).map fun k => boolCells (decide (k ∈ (placesOf j.keys).take m)))[i]? = some [.v (.bool (decide (i ∈ (placesOf j.keys).take m)))] := get_range (fun k => boolCells (decide (k ∈ (placesOf j.keys).take m))) (by omega)
        obtain ⟨ky, hky⟩ := gete (l := j.keys) (i := i) (by omega)
        have hgk := jstr_at hky
        have hkd : j.keys.getD i [] = ky := by rw [List.getD_eq_getElem?_getD, hky]; rfl
        have hlN : ((i : Int) < (N : Int)) = True := by simp; omega
        by_cases hD : i ∈ (placesOf j.keys).take m
        · rw [decide_eq_true hD] at hgq
          (apply AWp_skip; simp only [AThen, ABlock]; refine hK _ _ ?_; clear hK K; refine AWp_seq_k (fun K hK => ?_); apply AWp_block; refine AWp_seq_k (fun K hK => ?_))
          apply AWp_drawA [0, 1, 2, 3, 4, 5, 6, 7, 8, 9, 10, 11, 12, 13, 14, 15, 16, 17, 18, 19, 20, 21] [] 0 (by exact mixed); kernel_rfl; (simp only [go_sem]; rfl); (simp only [go_sem]; rfl)
          ((iterate 6 (apply e_q; decide; (simp only [go_sem, hqL, hgq, hlN]; rfl))); (iterate 4 (apply e_spec; decide; (simp only [go_sem, hqL, hgq, hlN]; rfl); (simp only [go_sem, hqL, hgq, hlN]; rfl); (simp only [go_sem, hqL, hgq, hlN]; rfl); (simp only [go_sem, hqL, hgq, hlN]; rfl); trivial)); apply e_when (av := (.v (.bool false))); decide; (simp only [go_sem, hqL, hgq, hlN]; rfl); (simp only [go_sem, hqL, hgq, hlN]; rfl); (simp only [go_sem, hqL, hgq, hlN]; rfl); trivial; (focus (intro hg; first | (cases hg; done) | (simp at hg; done))); apply e_spec; decide; (simp only [go_sem, hqL, hgq, hlN]; rfl); (simp only [go_sem, hqL, hgq, hlN]; rfl); (simp only [go_sem, hqL, hgq, hlN]; rfl); (simp only [go_sem, hqL, hgq, hlN]; rfl); trivial; (iterate 2 (apply e_when (av := (.v (.bool false))); decide; (simp only [go_sem, hqL, hgq, hlN]; rfl); (simp only [go_sem, hqL, hgq, hlN]; rfl); (simp only [go_sem, hqL, hgq, hlN]; rfl); trivial; (focus (intro hg; first | (cases hg; done) | (simp at hg; done))))); apply e_spec; decide; (simp only [go_sem, hqL, hgq, hlN]; rfl); (simp only [go_sem, hqL, hgq, hlN]; rfl); (simp only [go_sem, hqL, hgq, hlN]; rfl); (simp only [go_sem, hqL, hgq, hlN]; rfl); trivial; apply e_when (av := (.v (.bool false))); decide; (simp only [go_sem, hqL, hgq, hlN]; rfl); (simp only [go_sem, hqL, hgq, hlN]; rfl); (simp only [go_sem, hqL, hgq, hlN]; rfl); trivial; (focus (intro hg; first | (cases hg; done) | (simp at hg; done))); apply e_spec; decide; (simp only [go_sem, hqL, hgq, hlN]; rfl); (simp only [go_sem, hqL, hgq, hlN]; rfl); (simp only [go_sem, hqL, hgq, hlN]; rfl); (simp only [go_sem, hqL, hgq, hlN]; rfl); trivial; (iterate 3 (apply e_when (av := (.v (.bool false))); decide; (simp only [go_sem, hqL, hgq, hlN]; rfl); (simp only [go_sem, hqL, hgq, hlN]; rfl); (simp only [go_sem, hqL, hgq, hlN]; rfl); trivial; (focus (intro hg; first | (cases hg; done) | (simp at hg; done))))); apply e_pickg; decide; (simp only [go_sem, hqL, hgq, hlN]; rfl); (simp only [go_sem, hqL, hgq, hlN]; rfl); (simp only [go_sem, hqL, hgq, hlN]; rfl); (simp only [go_sem, hqL, hgq, hlN]; rfl); (simp only [go_sem, hqL, hgq, hlN]; rfl); (simp only [go_sem, hqL, hgq, hlN]; rfl); (simp only [go_sem, hqL, hgq, hlN]; rfl); (simp only [go_sem, hqL, hgq, hlN]; rfl); trivial; trivial; simp [condsOk]; apply e_pick; decide; (simp only [go_sem, hqL, hgq, hlN]; rfl); (simp only [go_sem, hqL, hgq, hlN]; rfl); (simp only [go_sem, hqL, hgq, hlN]; rfl); (simp only [go_sem, hqL, hgq, hlN]; rfl); (simp only [go_sem, hqL, hgq, hlN]; rfl); (simp only [go_sem, hqL, hgq, hlN]; rfl); trivial; trivial; trivial; apply e_nil; apply t_nil; simp only [AThen, ABlock]; refine hK _ _ ?_; clear hK K)
          refine cond_split (by simp only [go_sem]; try rfl) (fun hf => ?_) (fun hf => ?_)
          · simp at hf
          (apply AWp_skip; simp only [AThen, ABlock]; refine hK _ _ ?_; clear hK K; apply s_region; (iterate 3 (apply s_q; decide; rfl; (simp only [go_sem]; rfl))); apply s_nil; simp only [AThen, ABlock])
          refine ⟨(i + 1, w), by simp only; omega, ⟨by simp only; omega, ?_⟩, ?_, by trivial⟩
          · cases w with
            | none => intro k hk; rcases Nat.lt_succ_iff_lt_or_eq.1 hk with hk | rfl; exact hw k hk; exact hD
            | some b => exact ⟨by have := hw.1; omega, hw.2.1, fun k hk hkn => by rcases Nat.lt_succ_iff_lt_or_eq.1 hk with hk | rfl; exact hw.2.2 k hk hkn; exact absurd hD hkn⟩
          · simp only [getAll, List.map_cons, List.map_nil, AFr.get, reduceIte, Nat.reduceEqDiff]
            rw [wrapS hli (by omega)]; try rfl
        · rw [decide_eq_false hD] at hgq
          cases w with
          | none =>
            (apply AWp_skip; simp only [AThen, ABlock]; refine hK _ _ ?_; clear hK K; refine AWp_seq_k (fun K hK => ?_); apply AWp_block; refine AWp_seq_k (fun K hK => ?_))
            apply AWp_drawA [0, 1, 2, 3, 4, 5, 6, 7, 8, 9, 10, 11, 12, 13, 14, 15, 16, 17, 18, 19, 20, 21] [] 0 (by exact mixed); kernel_rfl; (simp only [go_sem]; rfl); (simp only [go_sem]; rfl)
            ((iterate 6 (apply e_q; decide; (simp only [go_sem, hqL, hgq, hlN, lstI]; rfl))); (iterate 4 (apply e_spec; decide; (simp only [go_sem, hqL, hgq, hlN, lstI]; rfl); (simp only [go_sem, hqL, hgq, hlN, lstI]; rfl); (simp only [go_sem, hqL, hgq, hlN, lstI]; rfl); (simp only [go_sem, hqL, hgq, hlN, lstI]; rfl); trivial)); apply e_when (av := (.v (.bool false))); decide; (simp only [go_sem, hqL, hgq, hlN, lstI]; rfl); (simp only [go_sem, hqL, hgq, hlN, lstI]; rfl); (simp only [go_sem, hqL, hgq, hlN, lstI]; rfl); trivial; (focus (intro hg; first | (cases hg; done) | (simp at hg; done))); apply e_spec; decide; (simp only [go_sem, hqL, hgq, hlN, lstI]; rfl); (simp only [go_sem, hqL, hgq, hlN, lstI]; rfl); (simp only [go_sem, hqL, hgq, hlN, lstI]; rfl); (simp only [go_sem, hqL, hgq, hlN, lstI]; rfl); trivial; (iterate 2 (apply e_when (av := (.v (.bool false))); decide; (simp only [go_sem, hqL, hgq, hlN, lstI]; rfl); (simp only [go_sem, hqL, hgq, hlN, lstI]; rfl); (simp only [go_sem, hqL, hgq, hlN, lstI]; rfl); trivial; (focus (intro hg; first | (cases hg; done) | (simp at hg; done))))); apply e_spec; decide; (simp only [go_sem, hqL, hgq, hlN, lstI]; rfl); (simp only [go_sem, hqL, hgq, hlN, lstI]; rfl); (simp only [go_sem, hqL, hgq, hlN, lstI]; rfl); (simp only [go_sem, hqL, hgq, hlN, lstI]; rfl); trivial; apply e_when (av := (.v (.bool false))); decide; (simp only [go_sem, hqL, hgq, hlN, lstI]; rfl); (simp only [go_sem, hqL, hgq, hlN, lstI]; rfl); (simp only [go_sem, hqL, hgq, hlN, lstI]; rfl); trivial; (focus (intro hg; first | (cases hg; done) | (simp at hg; done))); apply e_spec; decide; (simp only [go_sem, hqL, hgq, hlN, lstI]; rfl); (simp only [go_sem, hqL, hgq, hlN, lstI]; rfl); (simp only [go_sem, hqL, hgq, hlN, lstI]; rfl); (simp only [go_sem, hqL, hgq, hlN, lstI]; rfl); trivial; (iterate 3 (apply e_when (av := (.v (.bool false))); decide; (simp only [go_sem, hqL, hgq, hlN, lstI]; rfl); (simp only [go_sem, hqL, hgq, hlN, lstI]; rfl); (simp only [go_sem, hqL, hgq, hlN, lstI]; rfl); trivial; (focus (intro hg; first | (cases hg; done) | (simp at hg; done))))); apply e_pickg; decide; (simp only [go_sem, hqL, hgq, hlN, lstI]; rfl); (simp only [go_sem, hqL, hgq, hlN, lstI]; rfl); (simp only [go_sem, hqL, hgq, hlN, lstI]; rfl); (simp only [go_sem, hqL, hgq, hlN, lstI]; rfl); (simp only [go_sem, hqL, hgq, hlN, lstI]; rfl); (simp only [go_sem, hqL, hgq, hlN, lstI]; rfl); (simp only [go_sem, hqL, hgq, hlN, lstI]; rfl); (simp only [go_sem, hqL, hgq, hlN, lstI]; rfl); trivial; trivial; trivial; apply e_pick; decide; (simp only [go_sem, hqL, hgq, hlN, lstI]; rfl); (simp only [go_sem, hqL, hgq, hlN, lstI]; rfl); (simp only [go_sem, hqL, hgq, hlN, lstI]; rfl); (simp only [go_sem, hqL, hgq, hlN, lstI]; rfl); (simp only [go_sem, hqL, hgq, hlN, lstI]; rfl); (simp only [go_sem, hqL, hgq, hlN, lstI]; rfl); trivial; trivial; trivial; apply e_nil; apply t_nil; simp only [AThen, ABlock]; refine hK _ _ ?_; clear hK K)
            refine cond_split (by simp only [go_sem]; try rfl) (fun hf => ?_) (fun hf => ?_)
            · (apply s_region; (iterate 2 (apply s_q; decide; rfl; (simp only [go_sem]; rfl))); apply s_nil; simp only [AThen, ABlock]; refine hK _ _ ?_; clear hK K; apply s_region; (iterate 3 (apply s_q; decide; rfl; (simp only [go_sem]; rfl))); apply s_nil; simp only [AThen, ABlock])
              refine ⟨(i + 1, some i), by simp only; omega, ⟨by simp only; omega, by omega, hD, fun k hk hkn => ?_⟩, ?_, by trivial⟩
              · rcases Nat.lt_succ_iff_lt_or_eq.1 hk with hk | rfl
                · exact absurd (hw k hk) hkn
                · exact List.le_refl _
              · simp only [getAll, List.map_cons, List.map_nil, AFr.get, reduceIte, Nat.reduceEqDiff]
                rw [wrapS hli (by omega)]; try rfl
            · simp at hf
          | some b =>
            obtain ⟨w1, w2, w3⟩ := hw
            obtain ⟨kb, hkb⟩ := gete (l := j.keys) (i := b) (by omega)
            have hgb := jstr_at hkb
            have hbd : j.keys.getD b [] = kb := by rw [List.getD_eq_getElem?_getD, hkb]; rfl
            have hbl : decide (((b : Nat) : Int) < 0) = false := by rw [decide_eq_false_iff_not]; omega
            (apply AWp_skip; simp only [AThen, ABlock]; refine hK _ _ ?_; clear hK K; refine AWp_seq_k (fun K hK => ?_); apply AWp_block; refine AWp_seq_k (fun K hK => ?_))
            apply AWp_drawA [0, 1, 2, 3, 4, 5, 6, 7, 8, 9, 10, 11, 12, 13, 14, 15, 16, 17, 18, 19, 20, 21] [] 0 (by exact mixed); kernel_rfl; (simp only [go_sem]; rfl); (simp only [go_sem]; rfl)
            ((iterate 6 (apply e_q; decide; (simp only [go_sem, hqL, hgq, hlN, lstI, hbl]; rfl))); (iterate 4 (apply e_spec; decide; (simp only [go_sem, hqL, hgq, hlN, lstI, hbl]; rfl); (simp only [go_sem, hqL, hgq, hlN, lstI, hbl]; rfl); (simp only [go_sem, hqL, hgq, hlN, lstI, hbl]; rfl); (simp only [go_sem, hqL, hgq, hlN, lstI, hbl]; rfl); trivial)); apply e_when; decide; (simp only [go_sem, hqL, hgq, hlN, lstI, hbl]; rfl); (simp only [go_sem, hqL, hgq, hlN, lstI, hbl]; rfl); (simp only [go_sem, hqL, hgq, hlN, lstI, hbl]; rfl); trivial; (intro hg; simp only [go_sem, hpL, hgk, hgb, lstI]; try rfl); apply e_spec; decide; (simp only [go_sem, hqL, hgq, hlN, lstI, hbl]; rfl); (simp only [go_sem, hqL, hgq, hlN, lstI, hbl]; rfl); (simp only [go_sem, hqL, hgq, hlN, lstI, hbl]; rfl); (simp only [go_sem, hqL, hgq, hlN, lstI, hbl]; rfl); trivial; apply e_when; decide; (simp only [go_sem, hqL, hgq, hlN, lstI, hbl]; rfl); (simp only [go_sem, hqL, hgq, hlN, lstI, hbl]; rfl); (simp only [go_sem, hqL, hgq, hlN, lstI, hbl]; rfl); trivial; (intro hg; simp only [go_sem, hpL, hgk, hgb, lstI]; try rfl); (iterate 2 (apply e_spec; decide; (simp only [go_sem, hqL, hgq, hlN, lstI, hbl]; rfl); (simp only [go_sem, hqL, hgq, hlN, lstI, hbl]; rfl); (simp only [go_sem, hqL, hgq, hlN, lstI, hbl]; rfl); (simp only [go_sem, hqL, hgq, hlN, lstI, hbl]; rfl); trivial)); apply e_when; decide; (simp only [go_sem, hqL, hgq, hlN, lstI, hbl]; rfl); (simp only [go_sem, hqL, hgq, hlN, lstI, hbl]; rfl); (simp only [go_sem, hqL, hgq, hlN, lstI, hbl]; rfl); trivial; (intro hg; simp only [go_sem, hpL, hgk, hgb, lstI]; try rfl); apply e_spec; decide; (simp only [go_sem, hqL, hgq, hlN, lstI, hbl]; rfl); (simp only [go_sem, hqL, hgq, hlN, lstI, hbl]; rfl); (simp only [go_sem, hqL, hgq, hlN, lstI, hbl]; rfl); (simp only [go_sem, hqL, hgq, hlN, lstI, hbl]; rfl); trivial; apply e_when; decide; (simp only [go_sem, hqL, hgq, hlN, lstI, hbl]; rfl); (simp only [go_sem, hqL, hgq, hlN, lstI, hbl]; rfl); (simp only [go_sem, hqL, hgq, hlN, lstI, hbl]; rfl); trivial; (intro hg; simp only [go_sem, hpL, hgk, hgb, lstI]; try rfl); (iterate 2 (apply e_spec; decide; (simp only [go_sem, hqL, hgq, hlN, lstI, hbl]; rfl); (simp only [go_sem, hqL, hgq, hlN, lstI, hbl]; rfl); (simp only [go_sem, hqL, hgq, hlN, lstI, hbl]; rfl); (simp only [go_sem, hqL, hgq, hlN, lstI, hbl]; rfl); trivial)); apply e_pickg; decide; (simp only [go_sem, hqL, hgq, hlN, lstI, hbl]; rfl); (simp only [go_sem, hqL, hgq, hlN, lstI, hbl]; rfl); (simp only [go_sem, hqL, hgq, hlN, lstI, hbl]; rfl); (simp only [go_sem, hqL, hgq, hlN, lstI, hbl]; rfl); (simp only [go_sem, hqL, hgq, hlN, lstI, hbl]; rfl); (simp only [go_sem, hqL, hgq, hlN, lstI, hbl]; rfl); (simp only [go_sem, hqL, hgq, hlN, lstI, hbl]; rfl); (simp only [go_sem, hqL, hgq, hlN, lstI, hbl]; rfl); trivial; trivial; trivial; apply e_pick; decide; (simp only [go_sem, hqL, hgq, hlN, lstI, hbl]; rfl); (simp only [go_sem, hqL, hgq, hlN, lstI, hbl]; rfl); (simp only [go_sem, hqL, hgq, hlN, lstI, hbl]; rfl); (simp only [go_sem, hqL, hgq, hlN, lstI, hbl]; rfl); (simp only [go_sem, hqL, hgq, hlN, lstI, hbl]; rfl); (simp only [go_sem, hqL, hgq, hlN, lstI, hbl]; rfl); trivial; trivial; trivial; apply e_nil; apply t_nil; simp only [AThen, ABlock]; refine hK _ _ ?_; clear hK K)
            refine cond_split (by simp only [go_sem]; try rfl) (fun hf => ?_) (fun hf => ?_)
            · have hf : blt ky kb = true := by simpa using hf
              rw [blt_eq] at hf
              have hf : ky < kb := by simpa using hf
              (apply s_region; (iterate 2 (apply s_q; decide; rfl; (simp only [go_sem]; rfl))); apply s_nil; simp only [AThen, ABlock]; refine hK _ _ ?_; clear hK K; apply s_region; (iterate 3 (apply s_q; decide; rfl; (simp only [go_sem]; rfl))); apply s_nil; simp only [AThen, ABlock])
              refine ⟨(i + 1, some i), by simp only; omega, ⟨by simp only; omega, by omega, hD, fun k hk hkn => ?_⟩, ?_, by trivial⟩
              · rcases Nat.lt_succ_iff_lt_or_eq.1 hk with hk | rfl
                · rw [hkd]; rw [hbd] at w3; exact List.le_trans (List.le_of_lt hf) (w3 k hk hkn)
                · exact List.le_refl _
              · simp only [getAll, List.map_cons, List.map_nil, AFr.get, reduceIte, Nat.reduceEqDiff]
                rw [wrapS hli (by omega)]; try rfl
            · have hf : blt ky kb = false := by simpa using hf
              rw [blt_eq] at hf
              have hf : ¬ ky < kb := by simpa using hf
              (apply AWp_skip; simp only [AThen, ABlock]; refine hK _ _ ?_; clear hK K; apply s_region; (iterate 3 (apply s_q; decide; rfl; (simp only [go_sem]; rfl))); apply s_nil; simp only [AThen, ABlock])
              refine ⟨(i + 1, some b), by simp only; omega, ⟨by simp only; omega, by omega, w2, fun k hk hkn => ?_⟩, ?_, by trivial⟩
              · rcases Nat.lt_succ_iff_lt_or_eq.1 hk with hk | rfl
                · exact w3 k hk hkn
                · rw [hbd, hkd]; exact List.not_lt.1 hf
              · simp only [getAll, List.map_cons, List.map_nil, AFr.get, reduceIte, Nat.reduceEqDiff]
                rw [wrapS hli (by omega)]; try rfl
      · have hiN : i = N := by simp at he; omega
        subst hiN
        have hpm : (placesOf j.keys).length = i := by omega
        obtain ⟨a0, ha0⟩ := gete (l := placesOf j.keys) (i := m) (by omega)
        have ham := List.mem_of_getElem? ha0
        have han : a0 ∉ (placesOf j.keys).take m := fun h => by
          obtain ⟨k, hk, hke⟩ := List.mem_take_iff_getElem.1 h
          obtain ⟨h3, h4⟩ := List.getElem?_eq_some_iff.1 ha0
          have := (List.getElem_inj (pl_nodup j.keys)).1 (hke.trans h4.symm)
          omega
        cases w with
        | none => exact absurd (hw a0 (by have := places_lt ham; omega)) han
        | some b =>
          obtain ⟨w1, w2, w3⟩ := hw
          have hib := place_min s2 (n := m) (b := b) (by omega) (by omega) w2 (fun k hk hkn => w3 k (by omega) hkn)
          clear ha0 ham han
          have hgq : (b : Int) < (i : Int) := by omega
          have hlN : ((b : Int) < (i : Int)) = True := by simp; omega
          obtain ⟨ky, hky⟩ := gete (l := j.keys) (i := b) (by omega)
          have hgk := jstr_at hky
          obtain ⟨x, hx⟩ := gete (l := j.list) (i := b) (by omega)
          have hgx := jget_at hx
          have hxm := List.mem_of_getElem? hx
          have hc5 := J.cells_eq x.ord
          have hgr : ((List.range j.keys.length).map fun k => boolCells (decide (k ∈ (placesOf j.keys).take m)))[b]? = some [.v (.bool (decide (b ∈ (placesOf j.keys).take m)))] := get_range (fun k => boolCells (decide (k ∈ (placesOf j.keys).take m))) (by omega)
          have e1 : ((placesOf j.keys).take (m + 1)).map (fun i => j.keys.getD i []) = ((placesOf j.keys).take m).map (fun i => j.keys.getD i []) ++ [ky] := by
            rw [take_succ hib, List.map_append, List.map_singleton, List.getD_eq_getElem?_getD, hky]; rfl
          have e2 : ((placesOf j.keys).take (m + 1)).map (fun i => (j.list.map J.ord).getD i (.mk 0 0 [] [] [])) = ((placesOf j.keys).take m).map (fun i => (j.list.map J.ord).getD i (.mk 0 0 [] [] [])) ++ [x.ord] := by
            rw [take_succ hib, List.map_append, List.map_singleton, List.getD_eq_getElem?_getD, List.getElem?_map, hx]; rfl
          have e3 : ((List.range j.keys.length).map fun k => boolCells (decide (k ∈ (placesOf j.keys).take m))).set b [.v (.bool true)] = (List.range j.keys.length).map fun k => boolCells (decide (k ∈ (placesOf j.keys).take (m + 1))) := by
            rw [set_range]
            refine List.map_congr_left fun k _ => ?_
            rw [take_succ hib, boolCells, boolCells]
            by_cases hk : k = b
            · subst hk; simp
            · simp [hk]
          obtain ⟨us, hus⟩ : ∃ us, ((placesOf j.keys).take m).map (fun i => j.keys.getD i []) = us := ⟨_, rfl⟩
          obtain ⟨vs, hvs⟩ : ∃ vs, ((placesOf j.keys).take m).map (fun i => (j.list.map J.ord).getD i (.mk 0 0 [] [] [])) = vs := ⟨_, rfl⟩
          have hul : us.length ≤ 1000000000 := by rw [← hus]; simp; omega
          have hvl : vs.length ≤ 1000000000 := by rw [← hvs]; simp; omega
          rw [hus] at hRa e1
          rw [hvs] at hRc e2
          apply AWp_exit; simp only [AThen, ABlock, reduceIte, Nat.reduceEqDiff]; clear hK K; refine hK _ _ ?_; clear hK K
          refine AWp_seq_k (fun K hK => ?_); apply s_region
          ((iterate 3 (apply s_q; decide; rfl; (simp only [go_sem, lstI, hqL, hlN, hgr]; rfl))); apply s_store; (simp only [go_sem, lstI, hqL, hlN, hgr]; rfl); (simp only [go_sem, lstI, hqL, hlN, hgr]; rfl); (simp only [go_sem, lstI, hqL, hlN, hgr]; rfl))
          apply s_nil; simp only [AThen, ABlock]; refine hK _ _ ?_; clear hK K
          have hqo : q ≠ o := hoq.symm
          have hq1 : (L.put q (doneRow j.keys (m + 1))).get q = some (doneRow j.keys (m + 1)) := AHeap.get_put_same _ _ _
          have hp1 := get_other (x := doneRow j.keys (m + 1)) hpL hpq
          have hr1 := get_other (x := doneRow j.keys (m + 1)) hrL hrq
          have ho1 := get_other (x := doneRow j.keys (m + 1)) hoL hoq
          have hE1 := hE.over hHq (o := doneRow j.keys (m + 1))
          have hRa1 := hRa.set hqL (doneRow j.keys (m + 1)) (by decide)
          have hRc1 := hRc.set hqL (doneRow j.keys (m + 1)) (by decide)
          rw [e3]
          generalize L.put q (doneRow j.keys (m + 1)) = L0 at hq1 hp1 hr1 ho1 hE1 hRa1 hRc1 ⊢
          have nb : ∀ {e : Nat} {sz' : Nat} {sn' : Bool} {es' : List (List AV)}, ¬ 4 = e → doneRow j.keys (m + 1) ≠ .row e sz' sn' es' := fun hne h => by
            injection h with h1 h2 h3 h4; exact hne h1
          have pLs := less_get (e := 9) hp1 (fun _ _ _ h => by cases h)
          have oLs := less_get (e := 9) ho1 (fun _ _ _ h => by cases h)
          (refine AWp_seq_k (fun K hK => ?_))
          apply AWp_drawAH [0, 1, 2, 3, 4, 5, 6, 7, 9] [8, 10] 1 (less_ext 9 L0) (by exact mixed); kernel_rfl; (simp only [go_sem]; rfl); (simp only [go_sem]; rfl)
          ((iterate 7 (apply e_q; decide; (simp only [go_sem, pLs, oLs, hgk, lstI]; rfl))); apply e_lit; decide; exact el_22; (simp only [go_sem, pLs, oLs, hgk, lstI]; rfl); (simp only [go_sem, pLs, oLs, hgk, lstI]; rfl); decide; apply e_q; decide; (simp only [go_sem, pLs, oLs, hgk, lstI]; rfl); apply e_nil; apply t_append; decide; (simp only [go_sem, pLs, oLs, hgk, lstI]; rfl); (simp only [go_sem, pLs, oLs, hgk, lstI]; rfl); apply AApp_at el_22 hE1 hRa1 (l := us) (m := [ky]) (g := strCells) rfl rfl tk_22 str_one (by simp; omega) (by simp; omega); intro s1 L1 ra rb rc; have hx1 := rc.less; refine ⟨by (intro _; assumption), ?_⟩)
          have w1 := rc o _ ho1 (fun _ _ _ h => by cases h)
          have w2 := rc r _ hr1 (fun _ _ _ h => by cases h)
          have w3 := rc p _ hp1 (fun _ _ _ h => by cases h)
          have w5 := rc q _ hq1 (fun _ _ _ => nb (by decide))
          have w4 := rc.row (by decide) hRc1
          obtain ⟨b1, hb1, rfl, hb1g⟩ := ra.row (by simp)
          have ra' : RowAt 9 1 H L1 _ _ := .inr ⟨b1, hb1, rfl, hb1g⟩
          (apply t_storex; (simp only [go_sem, w1]; rfl); (simp only [go_sem, w1]; rfl); (simp only [go_sem, w1]; rfl); (first | (intro _; exact Ext.put (Ext.refl _) (by assumption)) | (intro h; exact absurd h (by decide)) | (intro _; exact Ext.put (by assumption) (by assumption))); apply t_nil; simp only [AThen, ABlock]; refine hK _ _ ?_; clear hK K)
          have q1 := ra'.put (o' := jbox j.kind j.int j.text (.row b1 1 (us ++ [ky]).length) c) w1 (fun _ _ _ h => by cases h)
          have q2 := w4.put (o' := jbox j.kind j.int j.text (.row b1 1 (us ++ [ky]).length) c) w1 (fun _ _ _ h => by cases h)
          have q3 := AHeap.get_put_same o (jbox j.kind j.int j.text (.row b1 1 (us ++ [ky]).length) c) L1
          have q4 := get_other (x := jbox j.kind j.int j.text (.row b1 1 (us ++ [ky]).length) c) w2 hro
          have q5 := get_other (x := jbox j.kind j.int j.text (.row b1 1 (us ++ [ky]).length) c) w3 hpo
          have q7 := get_other (x := jbox j.kind j.int j.text (.row b1 1 (us ++ [ky]).length) c) w5 hqo
          have q6 := rb.over hHo (o := jbox j.kind j.int j.text (.row b1 1 (us ++ [ky]).length) c)
          simp only [List.length_map] at q1
          generalize L1.put o (jbox j.kind j.int j.text (.row b1 1 (us ++ [ky]).length) c) = L2 at q1 q2 q3 q4 q5 q6 q7 ⊢
          clear w1 w2 w3 w4 w5 ra ra' rb rc hx1 hb1g pLs oLs
          have pLs := less_get (e := 25) q5 (fun _ _ _ h => by cases h)
          have oLs := less_get (e := 25) q3 (fun _ _ _ h => by cases h)
          apply AWp_drawAH [0, 1, 2, 3, 4, 5, 6, 7, 8, 10] [9, 11] 1 (less_ext 25 L2) (by exact mixed); kernel_rfl; (simp only [go_sem]; rfl); (simp only [go_sem]; rfl)
          ((iterate 7 (apply e_q; decide; (simp only [go_sem, pLs, oLs, hgx, hc5, lstI]; rfl))); apply e_call; decide; (simp only [go_sem, pLs, oLs, hgx, hc5, lstI]; rfl); (simp only [go_sem, pLs, oLs, hgx, hc5, lstI]; rfl); (refine ACall.args_eq (bs := [.agg x.cells]) (by rw [J.cells_eq x]) ?_; apply ih x (hch x hxm) (f4 x hxm); exact ⟨rfl, rfl⟩); apply e_lit; decide; exact el_23; (simp only [go_sem, pLs, oLs, hgx, hc5, lstI]; rfl); (simp only [go_sem, pLs, oLs, hgx, hc5, lstI]; rfl); decide; apply e_q; decide; (simp only [go_sem, pLs, oLs, hgx, hc5, lstI]; rfl); apply e_nil; apply t_append; decide; (simp only [go_sem, pLs, oLs, hgx, hc5, lstI]; rfl); (simp only [go_sem, pLs, oLs, hgx, hc5, lstI]; rfl); apply AApp_at el_23 q6 q2 (l := vs) (m := [x.ord]) (g := J.cells) rfl (by simp [hc5]) tk_23 J.one (by simp; omega) (by simp; omega); intro s2 L3 ra rb rc; have hx3 := rc.less; refine ⟨by (intro _; assumption), ?_⟩)
          have w1 := rc o _ q3 (fun _ _ _ h => by cases h)
          have w2 := rc r _ q4 (fun _ _ _ h => by cases h)
          have w3 := rc p _ q5 (fun _ _ _ h => by cases h)
          have w5 := rc q _ q7 (fun _ _ _ => nb (by decide))
          have w4 := rc.row (by decide) q1
          obtain ⟨b2, hb2, rfl, hb2g⟩ := ra.row (by simp)
          have ra' : RowAt 25 5 H L3 _ _ := .inr ⟨b2, hb2, rfl, hb2g⟩
          (apply t_storex; (simp only [go_sem, w1]; rfl); (simp only [go_sem, w1]; rfl); (simp only [go_sem, w1]; rfl); (first | (intro _; exact Ext.put (Ext.refl _) (by assumption)) | (intro h; exact absurd h (by decide)) | (intro _; exact Ext.put (by assumption) (by assumption))); apply t_nil; simp only [AThen, ABlock]; refine hK _ _ ?_; clear hK K; apply s_region; (iterate 3 (apply s_q; decide; rfl; (simp only [go_sem, w1]; rfl))); apply s_nil; simp only [AThen, ABlock])
          have z1 := ra'.put (o' := jbox j.kind j.int j.text (.row b1 1 (us ++ [ky]).length) (.row b2 5 (vs ++ [x.ord]).length)) w1 (fun _ _ _ h => by cases h)
          have z2 := w4.put (o' := jbox j.kind j.int j.text (.row b1 1 (us ++ [ky]).length) (.row b2 5 (vs ++ [x.ord]).length)) w1 (fun _ _ _ h => by cases h)
          simp only [List.length_map] at z1
          refine ⟨(m + 1, .row b1 1 (us ++ [ky]).length, .row b2 5 (vs ++ [x.ord]).length, L3.put o (jbox j.kind j.int j.text (.row b1 1 (us ++ [ky]).length) (.row b2 5 (vs ++ [x.ord]).length))), by simp only; omega, ⟨by simp only; omega, rb.over hHo, get_other w3 hpo, get_other w2 hro, AHeap.get_put_same _ _ _, get_other w5 hqo, ?_, ?_⟩, ?_, ?_⟩
          · simp only [e1]; exact z2
          · simp only [e2, List.nil_append]; exact z1
          · simp only [getAll, List.map_cons, List.map_nil, AFr.get, reduceIte, Nat.reduceEqDiff]
            rw [wrapS hlt (by omega)]; try rfl
          · rfl
    · have hge : N ≤ m := by simp at hd; omega
      rw [List.take_of_length_le (by omega)] at hRa hRc
      obtain ⟨us, hus⟩ : ∃ us, (placesOf j.keys).map (fun i => j.keys.getD i []) = us := ⟨_, rfl⟩
      obtain ⟨vs, hvs⟩ : ∃ vs, ys ++ (placesOf j.keys).map (fun i => (j.list.map J.ord).getD i (.mk 0 0 [] [] [])) = vs := ⟨_, rfl⟩
      have hord : j.ord = .mk j.kind j.int j.text us vs := by
        by_cases hk : j.keys = []
        · have hp0 : placesOf j.keys = [] := List.length_eq_zero_iff.1 (by rw [places_len, hk]; rfl)
          rw [← hus, ← hvs, hp0, List.map_nil, List.map_nil, List.append_nil]
          exact hnil hk
        · obtain ⟨h5, rfl⟩ := hcons hk
          rw [← hus, ← hvs, List.nil_append, ord_eq, if_pos h5, h5]
      rw [hus] at hRa
      rw [hvs] at hRc
      have hsn : ∃ K, Snap X [.agg [.v (.int .i64 j.kind), .v (.int .i64 j.int), .s j.text, a, c]] (L.put r (jbox j.kind j.int j.text a c)) [.agg j.ord.cells] K ∧ K = H := by
        refine ⟨H, ?_, rfl⟩
        have hra := hRa.put (o' := jbox j.kind j.int j.text a c) hrL (fun _ _ _ h => by cases h)
        have hrc := hRc.put (o' := jbox j.kind j.int j.text a c) hrL (fun _ _ _ h => by cases h)
        have := snap_two (X := X) (pre := [.v (.int .i64 j.kind), .v (.int .i64 j.int), .s j.text]) hra hrc (hE.over hHr) (by decide) (fun _ _ _ => rfl) (fun b sz es => snap_strs b sz es _)
        rw [hord, J.cells_eq]
        exact this
      obtain ⟨K1, z3, z4⟩ := hsn
      subst z4
      have hst : storeK L (AL.sz? X.P 25) (ptrTo r) (.agg [.v (.int .i64 j.kind), .v (.int .i64 j.int), .s j.text, a, c]) = some (L.put r (jbox j.kind j.int j.text a c)) := by
        rcases hRa with ⟨rfl, _⟩ | ⟨_, _, rfl, _⟩ <;> rcases hRc with ⟨rfl, _⟩ | ⟨_, _, rfl, _⟩ <;> simp only [go_sem, hrL] <;> rfl
      have z5 := AHeap.get_put_same r (jbox j.kind j.int j.text a c) L
      (apply AWp_exit; simp only [AThen, ABlock, reduceIte, Nat.reduceEqDiff]; clear hK K; refine hK _ _ ?_; clear hK K; refine AWp_seq_k (fun K hK => ?_); apply s_region; apply s_q; decide; rfl; (simp only [go_sem, hoL]; rfl))
      apply s_store rfl rfl hst
      generalize L.put r (jbox j.kind j.int j.text a c) = L9 at z3 z5 ⊢
      (apply s_nil; simp only [AThen, ABlock]; refine hK _ _ ?_; clear hK K; apply AWp_ret)
      try simp only [AThen, ABlock]
      refine end_ret (av := .agg [.v (.int .i64 j.kind), .v (.int .i64 j.int), .s j.text, a, c]) (by show resAV X.P _ _ [.cell 2 25] = _; simp only [go_sem, z5]; try rfl) ⟨_, _, z3, h⟩
  clear hK0
  (refine AWp_seq_k (fun K hK => ?_); apply s_region; (iterate 3 (apply s_q; decide; rfl; (simp only [go_sem, k1]; rfl))); apply s_nil; simp only [AThen, ABlock]; refine hK _ _ ?_; clear hK K)
  refine cond_split (by simp only [go_sem]; try rfl) (fun h4 => ?_) (fun h4 => ?_)
  · have h4 : j.kind = 4 := by simpa using h4
    have hkn := shaped_list hsh h4
    (refine AWp_seq_k (fun K hK => ?_); apply s_region; apply s_q; decide; rfl; (simp only [go_sem]; rfl); apply s_nil; simp only [AThen, ABlock]; refine hK _ _ ?_; clear hK K; apply AWp_block)
    refine AWp_loop_s (σ := Nat × AV × AHeap) [1, 2, 3, 4] (fun s => [ptrTo p, ptrTo r, ptrTo o, .v (.int .i64 s.1)]) (fun s => s.2.2) (fun s => j.list.length - s.1)
      (fun s => s.1 ≤ j.list.length ∧ Ext H s.2.2 ∧ s.2.2.get p = some (jbox j.kind j.int j.text (.sl false (j.keys.map strCells)) (.sl false (j.list.map J.cells))) ∧ s.2.2.get r = some (jbox 0 0 [] (.sl true []) (.sl true [])) ∧ s.2.2.get o = some (jbox j.kind j.int j.text (.sl true []) s.2.1) ∧ RowAt 25 5 H s.2.2 (((j.list.take s.1).map J.ord).map J.cells) s.2.1)
      (0, .sl true [], M2) ⟨Nat.zero_le _, k4, k1, k2, k3, RowAt.nil _ _ _ _⟩ rfl rfl (fun s hs => ?_)
    obtain ⟨m, c, L⟩ := s
    obtain ⟨hm, hE, hpL, hrL, hoL, hR⟩ := hs
    clear k1 k2 k3 k4
    simp only [List.zip_cons_cons, List.zip_nil_right] at hm hE hpL hrL hoL hR ⊢
    ((iterate 2 (refine AWp_seq_k (fun K hK => ?_))); apply s_region; (iterate 5 (apply s_q; decide; rfl; (simp only [go_sem, hpL]; rfl))); apply s_nil; simp only [AThen, ABlock]; refine hK _ _ ?_; clear hK K)
    refine cond_split (by simp only [go_sem]; try rfl) (fun hd => ?_) (fun hd => ?_)
    · have hlt : m < j.list.length := by simpa using hd
      obtain ⟨x, hx⟩ := gete hlt
      have hgx := jget_at hx
      have hxm := List.mem_of_getElem? hx
      have hc5 := J.cells_eq x.ord
      have q2s := less_get (e := 25) hpL (fun _ _ _ h => by cases h)
      have q3s := less_get (e := 25) hoL (fun _ _ _ h => by cases h)
      (apply AWp_skip; simp only [AThen, ABlock]; refine hK _ _ ?_; clear hK K; refine AWp_seq_k (fun K hK => ?_); apply AWp_block)
      apply AWp_drawAH [0, 1, 2, 3, 4, 5, 6, 7, 8, 10] [9, 11] 1 (less_ext 25 L) (by exact mixed); kernel_rfl; (simp only [go_sem]; rfl); (simp only [go_sem]; rfl)
      ((iterate 7 (apply e_q; decide; (simp only [go_sem, q2s, q3s, hgx, hc5]; rfl))); apply e_call; decide; (simp only [go_sem, q2s, q3s, hgx, hc5]; rfl); (simp only [go_sem, q2s, q3s, hgx, hc5]; rfl); (refine ACall.args_eq (bs := [.agg x.cells]) (by rw [J.cells_eq x]) ?_; apply ih x (hch x hxm) (f4 x hxm); exact ⟨rfl, rfl⟩); apply e_lit; decide; exact el_23; (simp only [go_sem, q2s, q3s, hgx, hc5]; rfl); (simp only [go_sem, q2s, q3s, hgx, hc5]; rfl); decide; apply e_q; decide; (simp only [go_sem, q2s, q3s, hgx, hc5]; rfl); apply e_nil; apply t_append; decide; (simp only [go_sem, q2s, q3s, hgx, hc5]; rfl); (simp only [go_sem, q2s, q3s, hgx, hc5]; rfl); apply AApp_at el_23 hE hR (l := (j.list.take m).map J.ord) (m := [x.ord]) (g := J.cells) rfl (by simp [hc5]) tk_23 J.one (by simp; omega) (by simp; omega); intro s2 L3 r1 r2 r3; have hx3 := r3.less; refine ⟨by (intro _; assumption), ?_⟩)
      have w1 := r3 o _ hoL (fun _ _ _ h => by cases h)
      have w2 := r3 r _ hrL (fun _ _ _ h => by cases h)
      have w3 := r3 p _ hpL (fun _ _ _ h => by cases h)
      obtain ⟨rb, hrb, rfl, hrbg⟩ := r1.row (by simp)
      have r1' : RowAt 25 5 H L3 _ _ := .inr ⟨rb, hrb, rfl, hrbg⟩
      (apply t_storex; (simp only [go_sem, w1]; rfl); (simp only [go_sem, w1]; rfl); (simp only [go_sem, w1]; rfl); (first | (intro _; exact Ext.put (Ext.refl _) (by assumption)) | (intro h; exact absurd h (by decide)) | (intro _; exact Ext.put (by assumption) (by assumption))); apply t_nil; simp only [AThen, ABlock]; refine hK _ _ ?_; clear hK K; apply s_region; (iterate 3 (apply s_q; decide; rfl; (simp only [go_sem, w1]; rfl))); apply s_nil; simp only [AThen, ABlock])
      have r4 := r1'.put (o' := jbox j.kind j.int j.text (.sl true []) (.row rb 5 (((j.list.take m).map J.ord ++ [x.ord]).map J.cells).length)) w1 (fun _ _ _ h => by cases h)
      have e2 : (j.list.take (m + 1)).map J.ord = (j.list.take m).map J.ord ++ [x.ord] := by rw [take_succ hx]; simp
      refine ⟨(m + 1, .row rb 5 (((j.list.take m).map J.ord ++ [x.ord]).map J.cells).length, L3.put o (jbox j.kind j.int j.text (.sl true []) (.row rb 5 (((j.list.take m).map J.ord ++ [x.ord]).map J.cells).length))), by simp only; omega, ⟨by simp only; omega, r2.over hHo, get_other w3 hpo, get_other w2 hro, AHeap.get_put_same _ _ _, ?_⟩, ?_, ?_⟩
      · simp only [e2]; exact r4
      · simp only [getAll, List.map_cons, List.map_nil, AFr.get, reduceIte, Nat.reduceEqDiff]
        rw [wrapS hlt (by omega)]; try rfl
      · simp only [List.length_map]
    · have hge : j.list.length ≤ m := by simpa using hd
      rw [List.take_of_length_le hge] at hR
      apply AWp_exit; simp only [AThen, ABlock, reduceIte, Nat.reduceEqDiff]
      exact hgo (j.list.map J.ord) c L (fun _ => by rw [ord_eq, if_neg (by omega)]) (fun h => absurd hkn h) (by simp; omega) hE hpL hrL hoL hR _ rfl
  · have h4 : ¬ j.kind = 4 := by simpa using h4
    apply AWp_skip; simp only [AThen, ABlock]
    refine hgo [] (.sl true []) M2 (fun hk => ?_) (fun hk => ?_) (by simp) k4 k1 k2 k3 (RowAt.nil _ _ _ _) _ rfl
    · by_cases h5 : j.kind = 5
      · have hp0 : placesOf j.keys = [] := List.length_eq_zero_iff.1 (by rw [places_len, hk]; rfl)
        rw [ord_eq, if_pos h5, hp0, h5]; rfl
      · rw [ord_eq, if_neg h5, (shaped_none hsh h4 h5).2]; rfl
    · by_cases h5 : j.kind = 5
      · exact ⟨h5, rfl⟩
      · exact absurd (shaped_none hsh h4 h5).1 hk
set_option maxHeartbeats 1000000 in
/-- Order: a value that is good, in order; the zero value where it is not. -/
theorem rOrder_c (j : J) (hf : J.Fit j) {H : AHeap} {Kc : AV → AHeap → Prop} (h : Kc (.agg (if goodB 12 j then j.ord else J.mk 0 0 [] [] []).cells) H) : ACall X 11 [.agg j.cells] H Kc := by
  refine ACall.post ?_
  rw [J.cells_eq]
  refine ACall_intro Tryz.func11 rfl (by kernel_rfl) (by rw [Tryz.ntmps11]; simp) ?_; rw [Tryz.ntmps11]; simp only [frame0, Nat.reduceAdd]
  refine AWp_seq_k (fun K hK => ?_); apply s_region
  apply s_box; decide; exact (by simp only [go_sem]; try rfl); exact (by simp only [go_sem]; try rfl); intro p hp
  apply s_alloc; decide; exact zc_json; intro r hr
  apply s_nil; simp only [AThen, ABlock]; refine hK _ _ ?_; clear hK K
  have g1 := get_fresh (AHeap.get_put_same p (jbox j.kind j.int j.text (.sl false (j.keys.map strCells)) (.sl false (j.list.map J.cells))) H) hr (x := jbox 0 0 [] (.sl true []) (.sl true []))
  have g2 := AHeap.get_put_same r (jbox 0 0 [] (.sl true []) (.sl true [])) (H.put p (jbox j.kind j.int j.text (.sl false (j.keys.map strCells)) (.sl false (j.list.map J.cells))))
  have g3 := (Ext.fresh hp (o := jbox j.kind j.int j.text (.sl false (j.keys.map strCells)) (.sl false (j.list.map J.cells)))).put hr (ob := jbox 0 0 [] (.sl true []) (.sl true []))
  have hHr : H.get r = none := none_fresh hr
  generalize (H.put p (jbox j.kind j.int j.text (.sl false (j.keys.map strCells)) (.sl false (j.list.map J.cells)))).put r (jbox 0 0 [] (.sl true []) (.sl true [])) = M at g1 g2 g3 ⊢
  have hend : ∀ (a : J), storeK M (AL.sz? X.P 25) (ptrTo r) (.agg a.cells) = some (M.put r (jbox a.kind a.int a.text (.sl false (a.keys.map strCells)) (.sl false (a.list.map J.cells)))) ∧ Ext H (M.put r (jbox a.kind a.int a.text (.sl false (a.keys.map strCells)) (.sl false (a.list.map J.cells)))) := fun a => by
    refine ⟨?_, g3.over hHr⟩
    rw [J.cells_eq]; simp only [go_sem, g2]; try rfl
  ((iterate 2 (refine AWp_seq_k (fun K hK => ?_))); apply s_region; apply s_q; decide; rfl; (simp only [go_sem, g1]; rfl); apply s_call; decide; (simp only [go_sem, g1]; rfl); (simp only [go_sem, g1]; rfl); refine ACall.args_eq (bs := [.agg j.cells]) (by rw [J.cells_eq j]) ?_; apply rGood_c j _ _ hf; apply s_q; decide; rfl; (simp only [go_sem, g1]; rfl); apply s_nil; simp only [AThen, ABlock]; refine hK _ _ ?_; clear hK K)
  refine cond_split (by simp only [go_sem]; try rfl) (fun hg => ?_) (fun hg => ?_)
  · have hg : goodB 12 j = false := by simpa using hg
    rw [hg] at h
    have z1 : storeK M (AL.sz? X.P 25) (ptrTo r) (.agg [.v (.int .i64 0), .v (.int .i64 0), .s [], .sl true [], .sl true []]) = some (M.put r (jbox 0 0 [] (.sl true []) (.sl true []))) := by simp only [go_sem, g2]; try rfl
    have z3 := AHeap.get_put_same r (jbox 0 0 [] (.sl true []) (.sl true [])) M
    (refine AWp_seq_k (fun K hK => ?_); apply s_region; apply s_q; decide; rfl; (simp only [go_sem, zc_json]; rfl))
    apply s_store rfl rfl z1
    (apply s_nil; simp only [AThen, ABlock]; refine hK _ _ ?_; clear hK K; apply AWp_ret)
    try simp only [AThen, ABlock]
    refine end_ret (av := .agg [.v (.int .i64 0), .v (.int .i64 0), .s [], .sl true [], .sl true []]) (by show resAV X.P _ _ [.cell 2 25] = _; simp only [go_sem, z3]; try rfl) ⟨_, _, Snap.trans Snap.loosen (Snap.drop (g3.over hHr)), h⟩
  · have hg : goodB 12 j = true := by simpa using hg
    rw [hg] at h
    obtain ⟨z1, z2⟩ := hend j.ord
    have z3 := AHeap.get_put_same r (jbox j.ord.kind j.ord.int j.ord.text (.sl false (j.ord.keys.map strCells)) (.sl false (j.ord.list.map J.cells))) M
    (apply AWp_skip; simp only [AThen, ABlock]; refine hK _ _ ?_; clear hK K; refine AWp_seq_k (fun K hK => ?_); apply s_region; apply s_q; decide; rfl; (simp only [go_sem, g1]; rfl); apply s_call; decide; (simp only [go_sem, g1]; rfl); (simp only [go_sem, g1]; rfl); refine ACall.args_eq (bs := [.agg j.cells]) (by rw [J.cells_eq j]) ?_; apply rorder_c 12 j hg hf)
    apply s_store rfl rfl z1
    (apply s_nil; simp only [AThen, ABlock]; refine hK _ _ ?_; clear hK K; apply AWp_ret)
    try simp only [AThen, ABlock]
    refine end_ret (av := .agg j.ord.cells) (by show resAV X.P _ _ [.cell 2 25] = _; simp only [go_sem, z3, J.cells_eq]; try rfl) ⟨_, _, Snap.drop z2, h⟩
end Go.Proofs.YtpdfgmedbphmkaaGreatDoor
