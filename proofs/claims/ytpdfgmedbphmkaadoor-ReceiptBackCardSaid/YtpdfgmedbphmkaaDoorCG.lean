/-
  Canonical JSON: the places of names in their order. Contract.
-/
import Derived.Test.YtpdfgmedbphmkaaDoorCF
import Derived.Test.YtpdfgmedbphmkaaDoorSo
import Derived.Test.YtpdfgmedbphmkaaDoorAL4
set_option linter.unusedSimpArgs false
set_option linter.unusedVariables false
set_option maxRecDepth 100000
namespace Go.Proofs.YtpdfgmedbphmkaaDoor
open Go Go.AL
attribute [local irreducible] AOps AWp SOps AE AT ACall AApp

theorem places_c (t : Bool) (ks : List (List UInt8)) (hn : ks.Nodup) (hl : ks.length ≤ 1000000000) (H : AHeap) (Kc : AV → AHeap → Prop) (h : Kc (.sl false ((placesOf ks).map natCells)) H) : ACall X 35 [.sl t (ks.map strCells)] H Kc := by
  refine ACall.gr (e := 3) (sz := 1) h ?_
  clear h
  obtain ⟨n, hnl⟩ : ∃ n, ks.length = n := ⟨_, rfl⟩
  refine ACall_intro Tryd.func35 rfl (by kernel_rfl) (by rw [Tryd.ntmps35]; simp) ?_; rw [Tryd.ntmps35]; simp only [frame0, Nat.reduceAdd]
  refine AWp_seq_k (fun K hK => ?_); apply s_region
  apply s_box; decide; exact (by simp only [go_sem]; try rfl); exact (by simp only [go_sem]; try rfl); intro q hq
  have e1 := AHeap.get_put_same q (.box 31 [.sl t (ks.map strCells)]) H
  have e3 := Ext.fresh hq (o := .box 31 [.sl t (ks.map strCells)])
  generalize AHeap.put q (.box 31 [.sl t (ks.map strCells)]) H = M at e1 e3 ⊢
  (apply s_q; decide; rfl; (simp only [go_sem, e1, hnl]; rfl); apply s_nil; simp only [AThen, ABlock]; refine hK _ _ ?_; clear hK K; refine AWp_seq_k (fun K hK => ?_); apply s_region; (iterate 2 (apply s_q; decide; rfl; (simp only [go_sem, e1, hnl]; rfl))))
  apply s_make; decide; exact el_67; exact (by simp only [go_sem]; try rfl); exact (by simp only [go_sem]; try rfl); exact zc_3; (refine ⟨by omega, by omega, by decide⟩); intro r hr
  have hHr : H.get r = none := none_of_ext e3 hr
  have f1 := AHeap.get_put_same r (.row 3 1 false (List.replicate ((n : Int).toNat) [.v (.int .i64 0)])) M
  have f2 := get_fresh e1 hr (x := .row 3 1 false (List.replicate ((n : Int).toNat) [.v (.int .i64 0)]))
  have f3 := e3.put hr (ob := .row 3 1 false (List.replicate ((n : Int).toNat) [.v (.int .i64 0)]))
  generalize M.put r (.row 3 1 false (List.replicate ((n : Int).toNat) [.v (.int .i64 0)])) = L0 at f1 f2 f3 ⊢
  rw [Int.toNat_natCast, range_const] at f1
  (apply s_q; decide; rfl; (simp only [go_sem]; rfl); apply s_nil; simp only [AThen, ABlock]; refine hK _ _ ?_; clear hK K; (iterate 2 (refine AWp_seq_k (fun K hK => ?_))); apply s_region; (iterate 3 (apply s_q; decide; rfl; (simp only [go_sem]; rfl))); apply s_nil; simp only [AThen, ABlock]; refine hK _ _ ?_; clear hK K; apply AWp_block)
  refine AWp_loop_s (σ := Nat × AHeap) [1, 3, 9, 10] (fun s => [ptrTo q, .row r 1 n, .v (.int .i64 n), .v (.int .i64 s.1)]) (fun s => s.2) (fun s => n - s.1)
    (fun s => s.1 ≤ n ∧ Ext H s.2 ∧ s.2.get q = some (.box 31 [.sl t (ks.map strCells)]) ∧ s.2.get r = some (.row 3 1 false ((List.range n).map fun j => natCells (if j < s.1 then j else 0)))) (0, L0) ⟨Nat.zero_le _, f3, f2, f1⟩ rfl rfl (fun s hs => ?_)
  obtain ⟨i, L⟩ := s
  obtain ⟨hi, hE, hqL, hrL⟩ := hs
  simp only [List.zip_cons_cons, List.zip_nil_right] at hi hE hqL hrL ⊢
  (refine AWp_seq_k (fun K hK => ?_); apply s_region; apply s_q; decide; rfl; (simp only [go_sem]; rfl); apply s_nil; simp only [AThen, ABlock]; refine hK _ _ ?_; clear hK K; refine AWp_seq_k (fun K hK => ?_))
  refine cond_split (by simp only [go_sem]; try rfl) (fun hd => ?_) (fun hd => ?_)
  · have hlt : i < n := by simpa using hd
    have hgk := get_range (fun j => natCells (if j < i then j else 0)) hlt
    have hlt4 : ((i : Int) < (n : Int)) = True := by simp; omega
    (apply AWp_skip; simp only [AThen, ABlock]; refine hK _ _ ?_; clear hK K; refine AWp_seq_k (fun K hK => ?_); apply AWp_block; refine AWp_seq_k (fun K hK => ?_); apply s_region; (iterate 2 (apply s_q; decide; rfl; (simp only [go_sem, hrL, hgk, hlt4]; rfl))); apply s_nil; simp only [AThen, ABlock]; refine hK _ _ ?_; clear hK K; apply s_region; (iterate 4 (apply s_q; decide; rfl; (simp only [go_sem, hrL, hgk, hlt4]; rfl))); apply s_store; (simp only [go_sem, hrL, hgk, hlt4]; rfl); (simp only [go_sem, hrL, hgk, hlt4]; rfl); (simp only [go_sem, hrL, hgk, hlt4]; rfl); apply s_nil; simp only [AThen, ABlock]; refine hK _ _ ?_; clear hK K; apply s_region; (iterate 2 (apply s_q; decide; rfl; (simp only [go_sem, hrL, hgk, hlt4]; rfl))); apply s_nil; simp only [AThen, ABlock])
    refine ⟨(i + 1, L.put r (.row 3 1 false (((List.range n).map fun j => natCells (if j < i then j else 0)).set i (natCells i)))), by simp only; omega, ⟨by simp only; omega, hE.over hHr, ?_, ?_⟩, ?_, by rfl⟩
    · exact get_other hqL (by rintro rfl; rw [hrL] at hqL; cases hqL)
    · simp only
      rw [AHeap.get_put_same, set_range]
      congr 3
      funext j
      by_cases e : j = i
      · subst e; simp
      · rw [if_neg e]
        congr 1
        by_cases h : j < i
        · rw [if_pos h, if_pos (by omega)]
        · rw [if_neg h, if_neg (by omega)]
    · simp only [getAll, List.map_cons, List.map_nil, AFr.get, reduceIte, Nat.reduceEqDiff]
      rw [wrapS hlt (by omega)]; try rfl
  · have hge : n = i := by simp at hd; omega
    subst hge
    have hrow : ((List.range n).map fun j => natCells (if j < n then j else 0)) = (List.range n).map natCells := List.map_congr_left fun j hj => by rw [if_pos (List.mem_range.1 hj)]
    rw [hrow] at hrL
    apply AWp_exit; simp only [AThen, ABlock, reduceIte, Nat.reduceEqDiff]; clear hK K; refine hK _ _ ?_; clear hK K
    refine AWp_cut [1, 3] (vs := [ptrTo q, .row r 1 n]) rfl ?_
    simp only [List.zip_cons_cons, List.zip_nil_right]
    refine AWp.freeze (t := 1) hqL rfl (by decide) ?_
    have hqN : H.get q = none := hq
    have g1 : (L.del q).get r = some (.row 3 1 false ((List.range n).map natCells)) := by rw [AHeap.get_del, if_neg (by rintro rfl; rw [hrL] at hqL; cases hqL)]; exact hrL
    have g2 := hE.del hqN
    generalize L.del q = L1 at g1 g2 ⊢
    (refine AWp_seq_k (fun K hK => ?_); apply s_region; (iterate 2 (apply s_q; decide; rfl; (simp only [go_sem]; rfl))))
    apply s_call; decide; exact (by simp only [go_sem]; try rfl); exact (by simp only [go_sem]; try rfl)
    refine ACall_sortB (k := 1) (mkA := fun bs => bs.headD .top) (es := (List.range n).map natCells) (c := fun i j => cmpS (ks.getD i []) (ks.getD j [])) sorts46 (by kernel_rfl) (by kernel_rfl) mk_one (.inr ⟨r, by rw [List.length_map, List.length_range], g1⟩) (by simp; omega) (fun x hx => ?_) (cmpS_swo ks _) (fun i j x y hx hy K2 hK2 => ?_) (fun p L5 hp1 hp2 hp3 => ?_)
    · obtain ⟨d, _, rfl⟩ := List.mem_map.1 hx; rfl
    · have hi : i < n := by have := (List.getElem?_eq_some_iff.1 hx).1; simpa using this
      have hj : j < n := by have := (List.getElem?_eq_some_iff.1 hy).1; simpa using this
      rw [get_range natCells hi] at hx
      rw [get_range natCells hj] at hy
      cases hx; cases hy
      refine cmpAt_c t ks i j (ks.getD i []) (ks.getD j []) ?_ ?_ _ K2 hK2
      · rw [List.getD_eq_getElem?_getD, List.getElem?_eq_getElem (by omega)]; rfl
      · rw [List.getD_eq_getElem?_getD, List.getElem?_eq_getElem (by omega)]; rfl
    rw [List.length_map, List.length_range, ← hnl] at hp1
    have hpp := places_of_sort hn hp1 hp2
    subst hpp
    rw [hnl] at hp1
    rw [perm_nat hp1] at hp3
    rcases hp3 with ⟨h0, _⟩ | ⟨b, h0, _, rfl⟩
    · cases h0
    rw [List.length_map, List.length_range] at h0
    cases h0
    (apply s_nil; simp only [AThen, ABlock]; refine hK _ _ ?_; clear hK K; refine AWp_seq_k (fun K hK => ?_); apply s_region; (iterate 2 (apply s_q; decide; rfl; (simp only [go_sem]; rfl))); apply s_nil; simp only [AThen, ABlock]; refine hK _ _ ?_; clear hK K; apply AWp_ret)
    have hlen : ((placesOf ks).map natCells).length = n := by rw [List.length_map, places_len, hnl]
    have hR : RowAt 3 1 H (L1.put r (.row 3 1 false ((placesOf ks).map natCells))) ((placesOf ks).map natCells) (.row r 1 n) := .inr ⟨r, hHr, by rw [hlen], AHeap.get_put_same _ _ _⟩
    exact hR.toGr (g2.over hHr)
end Go.Proofs.YtpdfgmedbphmkaaDoor
