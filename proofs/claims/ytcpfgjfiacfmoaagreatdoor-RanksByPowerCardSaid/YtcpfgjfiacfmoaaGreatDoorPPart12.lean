/-
  Places heard by power, as the document tells it. Contract.
-/
import Derived.Test.YtcpfgjfiacfmoaaGreatDoorPPart11
import Derived.Test.YtcpfgjfiacfmoaaGreatDoorPAL4
set_option linter.unusedSimpArgs false
set_option linter.unusedVariables false
set_option maxRecDepth 100000
namespace Go.Proofs.YtcpfgjfiacfmoaaGreatDoor
open Go Go.AL
attribute [local irreducible] AOps AWp SOps AE AT ACall AApp

theorem AWp_snapAt {N : NR} {c : Code} {Q : Exit → AFr → AHeap → Prop} {e sz : Nat} {H0 L : AHeap} {es : List (List AV)} {a : AV} {d : Nat} {fr : AFr} (h : RowAt e sz H0 L es a) (hfr : ∀ b, L.get b = some (.row e sz false es) → AFr.snap b sz es fr = fr)
    (k : ∀ tl L', (∀ c o, L.get c = some o → (∀ sz sn es, o ≠ .row e sz sn es) → L'.get c = some o) → Ext H0 L' → AWp X N c Q ((d, .sl tl es) :: fr) L') (hE : Ext H0 L) : AWp X N c Q ((d, a) :: fr) L := by
  rcases h with ⟨rfl, rfl⟩ | ⟨b, h1, rfl, h3⟩
  · exact k true L (fun c o h _ => h) hE
  · refine AWp.snap h3 ?_
    simp only [AFr.snap, AV.snap, if_true, true_and, Nat.le_refl, reduceIte, List.take_length, hfr b h3]
    refine k false _ (fun c o hc ho => ?_) (hE.over h1)
    rw [AHeap.get_put, if_neg]
    · exact hc
    · rintro rfl; rw [h3] at hc; cases hc; exact ho _ _ _ rfl
theorem parL_eq (p : Pa) (ls : List Int) (x : Int) : parL p ls x = parK p ls x ls.length := rfl
set_option maxHeartbeats 8000000 in
theorem rbyPower_c (p : Pa) (hw : p.Wide) (hsm : ∀ e ∈ p.events, Sml e.content) (hn : p.events.length ≤ 1000) (t : Bool) (l : List Int) (hl : l.length ≤ 1000) (H : AHeap) (Kc : AV → AHeap → Prop) (h : Kc (.sl false ((powA p l).map intCells)) H) : ACall X 20 [.agg p.cells, .sl t (l.map intCells)] H Kc := by
  refine ACall.gr (e := 3) (sz := 1) h ?_
  clear h
  have hR : ∀ (H : AHeap) (K : AV → AHeap → Prop), K (.v (.bool (rightB p))) H → ACall X 26 [.agg (pCells p)] H K := fun H K hK => rright_c p hw H K hK
  have hT : ∀ (H : AHeap) (K : AV → AHeap → Prop), K (.sl false ((setL p.events.length l).map intCells)) H → ACall X 53 [.agg (pCells p), .sl t (l.map intCells)] H K := fun H K hK => set_c p hw hn t l hl H K hK
  rw [Pa.cells]
  refine ACall_intro Tryz.func20 rfl (by kernel_rfl) (by rw [Tryz.ntmps20]; simp) ?_; rw [Tryz.ntmps20]; simp only [frame0, Nat.reduceAdd]
  apply sR; intro K hK
  apply s_box; decide; exact (by simp only [go_sem]; try rfl); exact (by simp only [go_sem]; try rfl); intro q hq
  generalize hgenq : AHeap.put q _ H = M; obtain ⟨g1, hextq⟩ := gen_ex hgenq hq; have hE := hextq; clear hextq hgenq
  (apply s_q; decide; rfl; (simp only [go_sem, g1]; rfl); refine s_nil (hK _ _ ?_); clear hK K; apply sK; intro K hK; apply sR; intro K hK; apply s_q; decide; rfl; (simp only [go_sem, g1]; rfl); apply s_call; decide; (iterate 2 (simp only [go_sem, g1]; rfl)); apply hR; apply s_q; decide; rfl; (simp only [go_sem, g1]; rfl); refine s_nil (hK _ _ ?_); clear hK K)
  refine cs (fun hc => ?_) (fun hc => ?_)
  · have hc : rightB p = false := by simpa using hc
    (apply sR; intro K hK; refine qr ?_; refine s_nil (hK _ _ ?_); clear hK K; apply AWp_ret; simp only [AThen, ABlock]; apply end_ret; rfl; simp only [AFr.get, reduceIte, Nat.reduceEqDiff])
    rw [powA, if_neg (by rw [hc]; decide)]
    exact ⟨M, hE, .inl ⟨rfl, rfl, rfl⟩⟩
  have hc : rightB p = true := by simpa using hc
  have hr := right_true hc
  have hA : powA p l = powO p (setL p.events.length l) := by rw [powA, if_pos hc]
  have hln := setL_len p.events.length l
  have hnd := setL_nd p.events.length l
  have hpo := setL_pos (n := p.events.length) (l := l)
  generalize setL p.events.length l = ls at hT hln hnd hpo hA
  have hLv : ∀ (i : Int), i ∈ ls → ∀ (H : AHeap) (K : AV → AHeap → Prop), K (.v (.int .i64 (levF p i))) H → ACall X 17 [.agg (pCells p), .v (.int .i64 i)] H K := fun i hi H K hK => by
    have h1 := hpo i hi
    refine rlevel12_c p hw hsm i H K ?_
    rw [levA, hc, show inR p.events.length i = true by simp [inR]; omega]
    exact hK
  have hCh : ∀ (x : Int) (H : AHeap) (K : AV → AHeap → Prop), K (.sl false ((chainL p.auth [x]).map intCells)) H → ACall X 28 [.agg (pCells p), .sl true [[.v (.int .i64 x)]]] H K := fun x H K hK => rchain_c p hw hn true [x] (by simp) H K (by rw [chainP, if_pos hc]; exact hK)
  have hchl : ∀ x, (chainL p.auth [x]).length ≤ 1000 := fun x => by
    rw [chainL, ofN, List.length_map]
    refine Nat.le_trans (List.length_filter_le _ _) ?_
    rw [List.length_range]
    have := hr.au; omega
  (refine AWp_skip (hK _ _ ?_); clear hK K; apply sR; intro K hK; (iterate 2 (apply s_q; decide; rfl; (simp only [go_sem, g1]; rfl))); apply s_call; decide; (iterate 2 (simp only [go_sem, g1]; rfl)); apply hT; apply s_q; decide; rfl; (simp only [go_sem, g1]; rfl); refine s_nil (hK _ _ ?_); clear hK K; apply sR; intro K hK; apply s_q; decide; rfl; (simp only [go_sem, g1]; rfl); refine s_nil (hK _ _ ?_); clear hK K; apply sR; intro K hK; apply s_q; decide; rfl; (simp only [go_sem, g1]; rfl); refine s_nil (hK _ _ ?_); clear hK K; apply sK; intro K hK; apply sR; intro K hK; apply s_q; decide; rfl; (simp only [go_sem, g1]; rfl); refine s_nil (hK _ _ ?_); clear hK K; apply AWp_block)
  obtain ⟨F, hF⟩ : ∃ F, levF p = F := ⟨_, rfl⟩
  rw [hF] at hLv
  have hpl := powP_len p ls
  have hrl := powR_len p ls
  refine AWp_loop_s (σ := Nat × AV × AV × AHeap) [1, 2, 5, 6, 7] (fun s => [.sl false (ls.map intCells), ptrTo q, s.2.1, s.2.2.1, .v (.int .i64 (s.1 : Int))]) (fun s => s.2.2.2) (fun s => ls.length - s.1)
    (fun s => s.1 ≤ ls.length ∧ s.2.2.2.get q = some (.box 35 (pCells p)) ∧ Ext H s.2.2.2 ∧ RowAt 38 1 H s.2.2.2 (((powP p ls).take s.1).map rowCells) s.2.1 ∧ RowAt 2 1 H s.2.2.2 (((powR p ls).take s.1).map intCells) s.2.2.1)
    (0, .sl true [], .sl true [], M) ⟨Nat.zero_le _, g1, hE, RowAt.nil _ _ _ _, RowAt.nil _ _ _ _⟩ rfl rfl (fun s hs => ?_)
  obtain ⟨i, a5, a6, L⟩ := s
  obtain ⟨hi, gq, hEL, hP5, hR6⟩ := hs
  clear g1 hE
  simp only [List.zip_cons_cons, List.zip_nil_right] at hi gq hEL hP5 hR6 ⊢
  (apply sK; intro K hK; apply sR; intro K hK; (iterate 4 (refine qr ?_)); refine s_nil (hK _ _ ?_); clear hK K)
  refine cs (fun hd => ?_) (fun hd => ?_)
  · have hil : i < ls.length := by simpa using hd
    obtain ⟨x, hx⟩ := gete hil
    have hgx := int_at hx
    have hxm := List.mem_of_getElem? hx
    have hx2 := hpo x hxm
    obtain ⟨xn, rfl⟩ : ∃ n : Nat, x = n := ⟨x.toNat, by omega⟩
    have hLx := hLv xn hxm
    have hcl := hchl xn
    have hPi : (powP p ls)[i]? = some (ofN (parL p ls xn)) := by rw [powP, List.getElem?_map, hx]; rfl
    have hRi : (powR p ls)[i]? = some (rnkL p ls xn : Int) := by rw [powR, List.getElem?_map, hx]; rfl
    (refine AWp_skip (hK _ _ ?_); clear hK K; apply sK; intro K hK; apply AWp_block; apply sK; intro K hK)
    apply AWp_drawA [0, 1, 2, 3, 4, 5, 6, 7] [] 0 (by exact mixed); kernel_rfl; (iterate 2 (simp only [go_sem]; rfl))
    ((iterate 5 (apply e_q; decide; (simp only [go_sem, gq, hgx]; rfl))); apply e_lit; decide; exact el_38; (iterate 2 (simp only [go_sem, gq, hgx]; rfl)); decide; apply e_call; decide; (iterate 2 (simp only [go_sem, gq, hgx]; rfl)); (apply hCh; exact ⟨rfl, rfl⟩); apply e_q; decide; (simp only [go_sem, gq, hgx]; rfl); apply e_nil; refine t_nil (hK _ _ ?_); clear hK K; apply sR; intro K hK; apply s_q; decide; rfl; (simp only [go_sem, gq, hgx]; rfl); refine s_nil (hK _ _ ?_); clear hK K; apply sR; intro K hK; apply s_q; decide; rfl; (simp only [go_sem, gq, hgx]; rfl); refine s_nil (hK _ _ ?_); clear hK K; apply sK; intro K hK; apply sR; intro K hK; apply s_q; decide; rfl; (simp only [go_sem, gq, hgx]; rfl); refine s_nil (hK _ _ ?_); clear hK K; apply AWp_block)
    refine AWp_loop_s (σ := Nat × AV × AHeap) [1, 2, 5, 6, 7, 8, 9, 10, 11] (fun s => [.sl false (ls.map intCells), ptrTo q, a5, a6, .v (.int .i64 (i : Int)), .sl false ((chainL p.auth [(xn : Int)]).map intCells), s.2.1, .v (.int .i64 (((ls.take s.1).filter fun y => ltB p F y xn).length : Nat)), .v (.int .i64 (s.1 : Int))]) (fun s => s.2.2) (fun s => ls.length - s.1)
      (fun s => s.1 ≤ ls.length ∧ Ext L s.2.2 ∧ RowAt 3 1 L s.2.2 ((ofN (parK p ls xn s.1)).map intCells) s.2.1)
      (0, .sl true [], L) ⟨Nat.zero_le _, Ext.refl _, RowAt.nil _ _ _ _⟩ rfl rfl (fun s hs => ?_)
    obtain ⟨k, a9, L1⟩ := s
    obtain ⟨hk, hE1, hU⟩ := hs
    simp only [List.zip_cons_cons, List.zip_nil_right] at hk hE1 hU ⊢
    have gq1 := hE1 _ _ gq
    (apply sK; intro K hK; apply sR; intro K hK; (iterate 4 (refine qr ?_)); refine s_nil (hK _ _ ?_); clear hK K)
    refine cs (fun he => ?_) (fun he => ?_)
    · have hkl : k < ls.length := by simpa using he
      obtain ⟨y, hy⟩ := gete hkl
      have hgy := int_at hy
      have hym := List.mem_of_getElem? hy
      have hy2 := hpo y hym
      obtain ⟨yn, rfl⟩ : ∃ n : Nat, y = n := ⟨y.toNat, by omega⟩
      have hLy := hLv yn hym
      have hpk := parK_succ p ls xn k
      rw [getD_some hy] at hpk
      have hpl2 := parK_len p ls xn k
      have hY : ∀ (H : AHeap) (K : AV → AHeap → Prop), K (.v (.bool (decide (ageI p yn xn < 0)))) H → ACall X 54 [.agg (pCells p), .v (.int .i64 xn), .v (.int .i64 yn)] H K := fun H K hK => younger_c p hr xn yn (by omega) (by omega) H K hK
      have hlt : (ltB p F yn xn = true) = (F xn < F yn ∨ (F yn = F xn ∧ ageI p yn xn < 0)) := by
        have e9 : (ageI p yn xn < 0) = ageLt p yn xn := propext age_neg
        rw [propext (ltB_iff (p := p) (ff := F)), ordLt, Int.toNat_natCast, Int.toNat_natCast, e9]
      have hcnt : ((ls.take (k + 1)).filter fun y => ltB p F y xn).length = ((ls.take k).filter fun y => ltB p F y xn).length + (if ltB p F yn xn = true then 1 else 0) := by
        rw [take_succ hy, List.filter_append, List.length_append, List.filter_cons, List.filter_nil]
        split <;> rfl
      have hcl2 : ((ls.take k).filter fun y => ltB p F y xn).length ≤ 1000 := Nat.le_trans (List.length_filter_le _ _) (by rw [List.length_take]; omega)
      generalize hcv : ((ls.take k).filter fun y => ltB p F y xn).length = cv at hcnt hcl2 ⊢
      (refine AWp_skip (hK _ _ ?_); clear hK K; apply sK; intro K hK; apply AWp_block; apply sK; intro K hK; apply sR; intro K hK; (iterate 5 (apply s_q; decide; rfl; (simp only [go_sem, hgy]; rfl))); apply s_call; decide; (iterate 2 (simp only [go_sem, hgy]; rfl)); apply in_c _ _ _ (by omega); refine s_nil (hK _ _ ?_); clear hK K)
      have hrest : ∀ (a9' : AV) (L2 : AHeap) (fr' : AFr), Ext L L2 → RowAt 3 1 L L2 ((ofN (parK p ls xn (k + 1))).map intCells) a9' → getAll [1, 2, 5, 6, 7, 8, 9, 10, 11] fr' = [.sl false (ls.map intCells), ptrTo q, a5, a6, .v (.int .i64 (i : Int)), .sl false ((chainL p.auth [(xn : Int)]).map intCells), a9', .v (.int .i64 (cv : Nat)), .v (.int .i64 (k : Int))] → K fr' L2 := fun a9' L2 fr' hE2 hU2 hfr => by
        refine hK _ _ (AWp_cut [1, 2, 5, 6, 7, 8, 9, 10, 11] hfr ?_); clear hK hfr K
        simp only [List.zip_cons_cons, List.zip_nil_right]
        have gq2 := hE2 _ _ gq
        (apply sK; intro K hK)
        apply AWp_drawA [0, 1, 2, 3, 4, 5, 6, 7, 8, 9, 10, 11, 12, 13] [] 0 (by exact mixed); kernel_rfl; (iterate 2 (simp only [go_sem]; rfl))
        ((iterate 5 (apply e_q; decide; (simp only [go_sem, gq2, hgx, hgy]; rfl))); apply e_call; decide; (iterate 2 (simp only [go_sem, gq2, hgx, hgy]; rfl)); (apply hLy; exact ⟨rfl, rfl⟩); (iterate 5 (apply e_q; decide; (simp only [go_sem, gq2, hgx, hgy]; rfl))); apply e_call; decide; (iterate 2 (simp only [go_sem, gq2, hgx, hgy]; rfl)); (apply hLx; exact ⟨rfl, rfl⟩); (iterate 2 (apply e_q; decide; (simp only [go_sem, gq2, hgx, hgy]; rfl))); apply e_nil; refine t_nil (hK _ _ ?_); clear hK K; apply sK; intro K hK)
        apply AWp_drawA [0, 1, 2, 3, 4, 5, 6, 7, 8, 9, 10, 11, 12, 13, 14, 15, 16, 17, 18, 19] [] 0 (by exact mixed); kernel_rfl; (iterate 2 (simp only [go_sem]; rfl))
        ((iterate 4 (apply e_q; decide; (simp only [go_sem, gq2, hgx, hgy]; rfl))); (iterate 2 (apply e_spec; decide; (iterate 4 (simp only [go_sem, gq2, hgx, hgy]; rfl)); trivial)); (iterate 2 (apply e_spec; decide; (iterate 4 (simp only [go_sem, gq2, hgx, hgy]; rfl)); simp [condsOk])); (iterate 3 (apply e_spec; decide; (iterate 4 (simp only [go_sem, gq2, hgx, hgy]; rfl)); trivial)); (iterate 2 (apply e_spec; decide; (iterate 4 (simp only [go_sem, gq2, hgx, hgy]; rfl)); simp [condsOk])); (iterate 2 (apply e_spec; decide; (iterate 4 (simp only [go_sem, gq2, hgx, hgy]; rfl)); trivial)); (iterate 2 (apply e_spec; decide; (iterate 4 (simp only [go_sem, gq2, hgx, hgy]; rfl)); simp [condsOk])); apply e_gpure; decide; (iterate 3 (simp only [go_sem, gq2, hgx, hgy]; rfl)); simp [condsOk]; (iterate 2 (simp only [go_sem, gq2, hgx, hgy]; rfl)); (apply hY; exact ⟨rfl, rfl⟩); apply e_pickg; decide; (iterate 8 (simp only [go_sem, gq2, hgx, hgy]; rfl)); simp [condsOk]; simp [condsOk]; trivial; apply e_pick; decide; (iterate 6 (simp only [go_sem, gq2, hgx, hgy]; rfl)); trivial; trivial; simp [condsOk]; apply e_nil; refine t_nil (hK _ _ ?_); clear hK K)
        refine cs (fun hz => ?_) (fun hz => ?_)
        · have hyes : ltB p F yn xn = true := by
            rw [hlt]; revert hz
            by_cases e1 : F xn < F yn
            · simp [e1]
            · by_cases e2 : F yn = F xn <;> simp [e2]
          rw [if_pos hyes] at hcnt
          have hwn : IntKind.i64.wrap ((cv : Int) + 1) = ((cv + 1 : Nat) : Int) := by rw [wrap64 (by omega)]; omega
          (apply s_region; (iterate 3 (apply s_q; decide; rfl; (simp only [go_sem, hwn]; rfl))); refine s_nil (hK _ _ ?_); clear hK K; apply s_region; (iterate 3 (apply s_q; decide; rfl; (simp only [go_sem, hwn]; rfl))); apply s_nil; simp only [AThen, ABlock])
          refine ⟨(k + 1, a9', L2), by simp only; omega, ⟨by simp only; omega, hE2, hU2⟩, ?_, by trivial⟩
          simp only [getAll, List.map, AFr.get, reduceIte, Nat.reduceEqDiff]
          rw [hcnt, wrapS hkl (by omega)]; try rfl
        · have hno : ¬ ltB p F yn xn = true := by
            rw [hlt]; revert hz
            by_cases e1 : F xn < F yn
            · simp [e1]
            · by_cases e2 : F yn = F xn
              · simp [e2]
              · simp [e1, e2]
          rw [if_neg hno, Nat.add_zero] at hcnt
          (refine AWp_skip (hK _ _ ?_); clear hK K; apply s_region; (iterate 3 (refine qr ?_)); apply s_nil; simp only [AThen, ABlock])
          refine ⟨(k + 1, a9', L2), by simp only; omega, ⟨by simp only; omega, hE2, hU2⟩, ?_, by trivial⟩
          simp only [getAll, List.map, AFr.get, reduceIte, Nat.reduceEqDiff]
          rw [hcnt, wrapS hkl (by omega)]; try rfl
      clear hK
      refine cs (fun hq2 => ?_) (fun hq2 => ?_)
      · have hq2 : (yn : Int) ∈ chainL p.auth [(xn : Int)] := by simpa using hq2
        rw [if_pos hq2] at hpk
        have hlen9 : (ofN (parK p ls xn k)).length ≤ 1000 := by rw [ofN, List.length_map]; omega
        (apply s_region; (iterate 2 (refine qr ?_)); apply s_lit; decide; exact el_38; (iterate 2 (simp only [go_sem]; rfl)); decide; apply s_append; decide; (iterate 2 (simp only [go_sem]; rfl)); apply AApp_at el_38 hE1 hU (l := ofN (parK p ls xn k)) (m := [(k : Int)]) (g := intCells) rfl rfl tk_38 int_one (by simp; omega) (by simp; omega); intro o2 L4 b1 b2 b3; refine qr ?_; apply s_nil; simp only [AThen, ABlock])
        exact hrest o2 L4 _ b2 (by rw [hpk, ofN, List.map_append]; exact b1) rfl
      · have hq2 : ¬ (yn : Int) ∈ chainL p.auth [(xn : Int)] := by simpa using hq2
        rw [if_neg hq2, List.append_nil] at hpk
        (apply AWp_skip; simp only [AThen, ABlock])
        exact hrest a9 L1 _ hE1 (by rw [hpk]; exact hU) rfl
    · have hge : ls.length ≤ k := by simpa using he
      have hkk : k = ls.length := by omega
      have hcv : ((ls.take k).filter fun y => ltB p F y xn).length = rnkL p ls xn := by rw [List.take_of_length_le hge, rnkL, hF]
      rw [hcv]
      rw [hkk, ← parL_eq] at hU
      apply AWp_exit; simp only [AThen, ABlock, reduceIte, Nat.reduceEqDiff]; clear hK K; refine hK _ _ ?_; clear hK K
      obtain ⟨L2, hE2, hG⟩ := hU.toGr hE1
      refine AWp_cut [9, 1, 2, 5, 6, 7, 10] (vs := [a9, .sl false (ls.map intCells), ptrTo q, a5, a6, .v (.int .i64 (i : Int)), .v (.int .i64 (rnkL p ls xn : Nat))]) rfl ?_
      simp only [List.zip_cons_cons, List.zip_nil_right]
      have hP5' := hP5.ext hE2
      have hR6' := hR6.ext hE2
      have gq2 := hE2 _ _ gq
      have hEL2 := hEL.trans hE2
      refine AWp_gr2 hG (fun b hb => ?_) ?_
      · have h5 : AV.snap b 1 ((ofN (parL p ls xn)).map intCells) a5 = a5 := by
          rcases hP5' with ⟨rfl, _⟩ | ⟨b2, _, rfl, h3⟩
          · rfl
          · have : b2 ≠ b := by rintro rfl; rw [h3] at hb; cases hb
            simp [AV.snap, this]
        have h6 : AV.snap b 1 ((ofN (parL p ls xn)).map intCells) a6 = a6 := by
          rcases hR6' with ⟨rfl, _⟩ | ⟨b2, _, rfl, h3⟩
          · rfl
          · have : b2 ≠ b := by rintro rfl; rw [h3] at hb; cases hb
            simp [AV.snap, this]
        simp only [AFr.snap, ptrTo, AV.snap, snap_ints, h5, h6]
      have hlp : ((powP p ls).take i).length ≤ 1000 := by rw [List.length_take]; omega
      have hlr : ((powR p ls).take i).length ≤ 1000 := by rw [List.length_take]; omega
      (apply sR; intro K hK; (iterate 2 (refine qr ?_)); apply s_lit; decide; exact el_32; (iterate 2 (simp only [go_sem]; rfl)); decide; apply s_append; decide; (iterate 2 (simp only [go_sem]; rfl)); apply AApp_at el_32 hEL2 hP5' (l := (powP p ls).take i) (m := [ofN (parL p ls xn)]) (g := rowCells) rfl rfl tk_32 row_one (by simp; omega) (by simp; omega); intro o5 L3 b1 b2 b3; refine qr ?_; refine s_nil (hK _ _ ?_); clear hK K; apply s_region; (iterate 2 (refine qr ?_)); apply s_lit; decide; exact el_73; (iterate 2 (simp only [go_sem]; rfl)); decide)
      have hR7 := b3.row (show 2 ≠ 38 by decide) hR6'
      have gq3 := b3 _ _ gq2 (fun _ _ _ h => by cases h)
      (apply s_append; decide; (iterate 2 (simp only [go_sem]; rfl)); apply AApp_at el_73 b2 hR7 (l := (powR p ls).take i) (m := [(rnkL p ls xn : Int)]) (g := intCells) rfl rfl tk_73 int_one (by simp; omega) (by simp; omega); intro o6 L4 c1 c2 c3; refine qr ?_; refine s_nil (hK _ _ ?_); clear hK K; apply s_region; (iterate 3 (refine qr ?_)); apply s_nil; simp only [AThen, ABlock])
      have hP7 := c3.row (show 38 ≠ 2 by decide) b1
      have gq4 := c3 _ _ gq3 (fun _ _ _ h => by cases h)
      refine ⟨(i + 1, o5, o6, L4), by simp only; omega, ⟨by simp only; omega, gq4, c2, by simp only; rw [take_succ hPi]; exact hP7, by simp only; rw [take_succ hRi]; exact c1⟩, ?_, by trivial⟩
      simp only [getAll, List.map, AFr.get, reduceIte, Nat.reduceEqDiff]
      rw [wrapS hil (by omega)]; try rfl
  · have hge : ls.length ≤ i := by simpa using hd
    rw [List.take_of_length_le (by omega)] at hP5 hR6
    apply AWp_exit; simp only [AThen, ABlock, reduceIte, Nat.reduceEqDiff]; clear hK K; refine hK _ _ ?_; clear hK K
    refine AWp_cut [5, 6, 1] (vs := [a5, a6, .sl false (ls.map intCells)]) rfl ?_
    simp only [List.zip_cons_cons, List.zip_nil_right]
    refine AWp_snapAt hP5 (fun b hb => ?_) (fun t5 L1 hk1 hE1 => ?_) hEL
    · have h6 : AV.snap b 1 ((powP p ls).map rowCells) a6 = a6 := by
        rcases hR6 with ⟨rfl, _⟩ | ⟨b2, _, rfl, h3⟩
        · rfl
        · have : b2 ≠ b := by rintro rfl; rw [h3] at hb; cases hb
          simp [AV.snap, this]
      simp only [AFr.snap, AV.snap, snap_ints, h6]
    have hR7 : RowAt 2 1 H L1 ((powR p ls).map intCells) a6 := by
      rcases hR6 with h | ⟨b2, h1, h2, h3⟩
      · exact .inl h
      · exact .inr ⟨b2, h1, h2, hk1 _ _ h3 (fun _ _ _ h => by cases h)⟩
    refine AWp_cut [6, 5, 1] (vs := [a6, .sl t5 ((powP p ls).map rowCells), .sl false (ls.map intCells)]) rfl ?_
    simp only [List.zip_cons_cons, List.zip_nil_right]
    refine AWp_snapAt hR7 (fun b hb => by simp only [AFr.snap, AV.snap, snap_ints, snap_rows]) (fun t6 L2 hk2 hE2 => ?_) hE1
    have hosl := refL_size (P := powP p ls) (R := powR p ls)
    have hos := refL_in (P := powP p ls) (R := powR p ls)
    rw [hpl] at hos hosl
    (apply sR; intro K hK; (iterate 2 (refine qr ?_)); apply s_call; decide; (iterate 2 (simp only [go_sem]; rfl)); refine refLinear_c t5 t6 (powP p ls) (powR p ls) (by omega) (fun r hr' => by have := powP_row r hr'; omega) (by omega) _ _ ?_; (iterate 5 (refine qr ?_)); refine s_nil (hK _ _ ?_); clear hK K; apply sR; intro K hK; refine qr ?_; refine s_nil (hK _ _ ?_); clear hK K; apply sK; intro K hK; apply sR; intro K hK; refine qr ?_; refine s_nil (hK _ _ ?_); clear hK K; apply AWp_block)
    obtain ⟨os, hosE⟩ : ∃ os, (refL (powP p ls) (powR p ls)).getD [] = os := ⟨_, rfl⟩
    have hpo2 : powO p ls = os.map fun k => ls.getD k.toNat 0 := by rw [powO, hosE]
    rw [hosE] at hos hosl ⊢
    refine AWp_loop_s (σ := Nat × AV × AHeap) [1, 14, 16, 17] (fun s => [.sl false (ls.map intCells), .sl false (os.map intCells), s.2.1, .v (.int .i64 (s.1 : Int))]) (fun s => s.2.2) (fun s => os.length - s.1)
      (fun s => s.1 ≤ os.length ∧ Ext H s.2.2 ∧ RowAt 3 1 H s.2.2 (((os.take s.1).map fun k => ls.getD k.toNat 0).map intCells) s.2.1)
      (0, .sl true [], L2) ⟨Nat.zero_le _, hE2, RowAt.nil _ _ _ _⟩ rfl rfl (fun s hs => ?_)
    obtain ⟨j, o, L3⟩ := s
    obtain ⟨hj, hE3, hO⟩ := hs
    simp only [List.zip_cons_cons, List.zip_nil_right] at hj hE3 hO ⊢
    (apply sK; intro K hK; apply sR; intro K hK; (iterate 4 (refine qr ?_)); refine s_nil (hK _ _ ?_); clear hK K)
    refine cs (fun hz => ?_) (fun hz => ?_)
    · have hjl : j < os.length := by simpa using hz
      obtain ⟨k, hk⟩ := gete hjl
      have hgk := int_at hk
      have hkin : 0 ≤ k ∧ k < ls.length := by simpa [inR] using hos k (List.mem_of_getElem? hk)
      obtain ⟨kn, rfl⟩ : ∃ m : Nat, k = m := ⟨k.toNat, by omega⟩
      obtain ⟨y, hy⟩ := gete (l := ls) (i := kn) (by omega)
      have hgy := int_at hy
      have hlo : ((os.take j).map fun k => ls.getD k.toNat 0).length ≤ 1000 := by simp; omega
      (refine AWp_skip (hK _ _ ?_); clear hK K; apply sK; intro K hK; apply AWp_block; apply s_region; (iterate 8 (apply s_q; decide; rfl; (simp only [go_sem, hgk, hgy]; rfl))); apply s_lit; decide; exact el_38; (iterate 2 (simp only [go_sem, hgk, hgy]; rfl)); decide; apply s_append; decide; (iterate 2 (simp only [go_sem, hgk, hgy]; rfl)); apply AApp_at el_38 hE3 hO (l := (os.take j).map fun k => ls.getD k.toNat 0) (m := [y]) (g := intCells) rfl rfl tk_38 int_one (by simp; omega) (by simp; omega); intro o2 L4 b1 b2 b3; apply s_q; decide; rfl; (simp only [go_sem, hgk, hgy]; rfl); refine s_nil (hK _ _ ?_); clear hK K; apply s_region; (iterate 3 (apply s_q; decide; rfl; (simp only [go_sem, hgk, hgy]; rfl))); apply s_nil; simp only [AThen, ABlock])
      refine ⟨(j + 1, o2, L4), by simp only; omega, ⟨by simp only; omega, b2, ?_⟩, ?_, by trivial⟩
      · simp only
        rw [take_succ hk, List.map_append, List.map_singleton, Int.toNat_natCast, getD_some hy]
        exact b1
      · simp only [getAll, List.map, AFr.get, reduceIte, Nat.reduceEqDiff]
        rw [wrapS hjl (by omega)]; try rfl
    · have hge2 : os.length ≤ j := by simpa using hz
      rw [List.take_of_length_le hge2] at hO
      (apply AWp_exit; simp only [AThen, ABlock, reduceIte, Nat.reduceEqDiff]; clear hK K; refine hK _ _ ?_; clear hK K; apply sR; intro K hK; (iterate 2 (refine qr ?_)); refine s_nil (hK _ _ ?_); clear hK K; apply AWp_ret)
      obtain ⟨L6, h1, h2⟩ := hO.toGr hE3
      exact ⟨L6, h1, by rw [hA, hpo2]; exact h2⟩

theorem powO_len (p : Pa) (ls : List Int) : (powO p ls).length ≤ ls.length := by
  have := refL_size (P := powP p ls) (R := powR p ls)
  rw [powO, List.length_map]
  simp only [powP, List.length_map] at this
  exact this
theorem powA_short (p : Pa) (l : List Int) (hev : p.events.length ≤ 25) : (powA p l).length ≤ 25 := by
  rw [powA]
  split
  · have h1 := powO_len p (setL p.events.length l)
    have h2 := setL_len p.events.length l
    omega
  · simp
set_option maxHeartbeats 1000000 in
theorem law_byPower (p : Pa) (hw : p.Wide) (t : Bool) (l : List Int) (hl : l.length ≤ 4611686018427387904) (H : AHeap) (K : AV → AHeap → Prop) (h : K (.v (.bool true)) H) : ACall X 5 [.agg p.cells, .sl t (l.map intCells)] H K := by
  have hF : ∀ (H : AHeap) (K : AV → AHeap → Prop), (∀ b, (b = true → p.Few) → K (.v (.bool b)) H) → ACall X 15 [.agg (pCells p)] H K := fun H K hk => few12_c p hw H K hk
  refine ACall.drop ?_
  rw [show p.cells = pCells p from rfl]
  refine ACall_intro Tryz.func5 rfl (by kernel_rfl) (by rw [Tryz.ntmps5]; simp) ?_; rw [Tryz.ntmps5]; simp only [frame0, Nat.reduceAdd]
  apply sR; intro K hK
  apply s_box; decide; exact (by simp only [go_sem]; try rfl); exact (by simp only [go_sem]; try rfl); intro q hq
  generalize hgenq : AHeap.put q _ H = M; obtain ⟨g1, hextq⟩ := gen_ex hgenq hq; have hE := hextq; clear hextq hgenq
  (apply s_q; decide; rfl; (simp only [go_sem, g1]; rfl); refine s_nil (hK _ _ ?_); clear hK K; apply sK; intro K hK; apply sR; intro K hK; apply s_q; decide; rfl; (simp only [go_sem, g1]; rfl); apply s_call; decide; (iterate 2 (simp only [go_sem, g1]; rfl)); apply hF; intro b hb; (iterate 2 (apply s_q; decide; rfl; (simp only [go_sem, g1]; rfl))); apply s_spec; decide; rfl; rfl; (iterate 4 (simp only [go_sem, g1]; rfl)); trivial; (iterate 2 (apply s_spec; decide; rfl; rfl; (iterate 4 (simp only [go_sem, g1]; rfl)); simp [condsOk])); apply s_pick; decide; (iterate 6 (simp only [go_sem, g1]; rfl)); trivial; trivial; simp [condsOk]; refine s_nil (hK _ _ ?_); clear hK K)
  refine cs (fun hc => ?_) (fun hc => ?_)
  · (apply sR; intro K hK; refine qr ?_; refine s_nil (hK _ _ ?_); clear hK K; apply AWp_ret; simp only [AThen, ABlock]; apply end_ret; rfl; simp only [AFr.get, reduceIte, Nat.reduceEqDiff])
    exact ⟨H, hE, h⟩
  have hfl : p.Few ∧ l.length ≤ 50 := by cases b <;> simp at hc hb <;> exact ⟨hb, by omega⟩
  obtain ⟨hf, hl50⟩ := hfl
  have hev := hf.ev
  have h1 : ∀ (H : AHeap) (K : AV → AHeap → Prop), K (.sl false ((powA p l).map intCells)) H → ACall X 19 [.agg (pCells p), .sl t (l.map intCells)] H K := fun H K hk => byPower_c p hw hf.sml (by omega) t l (by omega) H K hk
  have h2 : ∀ (H : AHeap) (K : AV → AHeap → Prop), K (.sl false ((powA p l).map intCells)) H → ACall X 20 [.agg (pCells p), .sl t (l.map intCells)] H K := fun H K hk => rbyPower_c p hw hf.sml (by omega) t l (by omega) H K hk
  have hpl := powA_short p l hev
  have hS : ∀ (H : AHeap) (K : AV → AHeap → Prop), K (.v (.bool true)) H → ACall X 18 [.sl false ((powA p l).map intCells), .sl false ((powA p l).map intCells)] H K := fun H K hk => same12_c false false _ _ (by omega) H K (by simpa using hk)
  (refine AWp_skip (hK _ _ ?_); clear hK K; apply sK; intro K hK)
  apply AWp_drawA [0, 1, 2, 3, 4, 5, 6, 7, 8, 9, 10] [] 0 (by exact mixed); kernel_rfl; (iterate 2 (simp only [go_sem]; rfl))
  ((iterate 2 (apply e_q; decide; (simp only [go_sem, g1]; rfl))); apply e_call; decide; (iterate 2 (simp only [go_sem, g1]; rfl)); (apply h1; exact ⟨rfl, rfl⟩); (iterate 2 (apply e_q; decide; (simp only [go_sem, g1]; rfl))); apply e_call; decide; (iterate 2 (simp only [go_sem, g1]; rfl)); (apply h2; exact ⟨rfl, rfl⟩); apply e_call; decide; (iterate 2 (simp only [go_sem, g1]; rfl)); (apply hS; exact ⟨rfl, rfl⟩); apply e_q; decide; (simp only [go_sem, g1]; rfl); apply e_gpure; decide; (iterate 3 (simp only [go_sem, g1]; rfl)); trivial; (iterate 2 (simp only [go_sem, g1]; rfl)); (apply awake_c; exact ⟨rfl, rfl⟩); apply e_pick; decide; (iterate 6 (simp only [go_sem, g1]; rfl)); trivial; trivial; trivial; apply e_q; decide; (simp only [go_sem, g1]; rfl); apply e_nil; refine t_nil (hK _ _ ?_); clear hK K; apply AWp_ret)
  exact ⟨H, hE, h⟩
end Go.Proofs.YtcpfgjfiacfmoaaGreatDoor
