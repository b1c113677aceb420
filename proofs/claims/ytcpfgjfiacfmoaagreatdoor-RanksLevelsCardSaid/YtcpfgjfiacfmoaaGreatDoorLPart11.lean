/-
  The examples: the sample, and what all answer there. Contracts.
-/
import Derived.Test.YtcpfgjfiacfmoaaGreatDoorLPart9
import Derived.Test.YtcpfgjfiacfmoaaGreatDoorLPart10
import Derived.Test.YtcpfgjfiacfmoaaGreatDoorLAL4
set_option linter.unusedSimpArgs false
set_option linter.unusedVariables false
set_option maxRecDepth 100000
namespace Go.Proofs.YtcpfgjfiacfmoaaGreatDoor
open Go Go.AL
attribute [local irreducible] AOps AWp SOps AE AT ACall AApp

def evS (t s : List UInt8) (c : J) : Ev := ⟨[], t, s, true, [], c, [], [], 0, 0, [], []⟩
def pS : Pa := ⟨[[99], [120], [121]], [evS tCreate [64, 97, 58, 115] (.mk 0 0 [] [] []), evS tPower [64, 98, 58, 115] (.mk 5 0 [] [] []), evS tPower [64, 97, 58, 115] (.mk 5 0 [] [] [])], [[], [], []], [[], [0], [0]], [false, false, false]⟩
theorem snap_ptr (b sz : Nat) (es : List (List AV)) (q : Nat) : AV.snap b sz es (ptrTo q) = ptrTo q := rfl
theorem sample_c (H : AHeap) (K : AV → AHeap → Prop) (h : K (.agg pS.cells) H) : ACall X 35 [] H K := by
  refine ACall.drop (ACall.loose ?_)
  refine ACall_intro Tryz.func35 rfl (by kernel_rfl) (by rw [Tryz.ntmps35]; simp) ?_; rw [Tryz.ntmps35]; simp only [frame0, Nat.reduceAdd]
  apply sR; intro K hK
  apply s_alloc; decide; exact zc_35; intro r hr
  refine s_nil (hK _ _ ?_); clear hK K
  generalize hgenq : AHeap.put r _ H = M; obtain ⟨g0, hextq⟩ := gen_ex hgenq hr; have hE := hextq; clear hextq hgenq
  (apply sR; intro K hK; refine qr ?_; apply s_alloc; decide; exact zc_25; intro b hb; apply s_store; (iterate 3 (simp only [go_sem]; rfl)); refine s_nil (hK _ _ ?_); clear hK K; apply sK; intro K hK)
  obtain ⟨q, hnewq⟩ : ∃ q, q = b := ⟨_, rfl⟩; have hq := hb; rw [← hnewq] at hq ⊢; clear hb hnewq; try clear he; clear b
  generalize hgenq : AHeap.put q _ M = M2; obtain ⟨g1, hextq⟩ := gen_ex hgenq hq; have g0 := hextq _ _ g0; have hE := Ext.trans hE hextq; clear hextq hgenq
  have hcont : ∀ (bk bw : Nat) (L : AHeap) (fr' : AFr), Ext M2 L → M2.get bk = none → M2.get bw = none → bk ≠ bw → L.get bk = some (.row 38 1 false [[.sl true []], [.sl true []], [.sl true []]]) → L.get bw = some (.row 4 1 false [[.v (.bool false)], [.v (.bool false)], [.v (.bool false)]]) → getAll [0] fr' = [ptrTo r] →
      K fr' (L.put r (.box 35 [.sl true (pS.names.map strCells), .sl true (pS.events.map fun e => [.s e.room, .s e.type, .s e.sender, .v (.bool e.isState), .s e.key, .v (.int .i64 e.content.kind), .v (.int .i64 e.content.int), .s e.content.text, .sl true [], .sl true [], .sl true [], .sl true [], .v (.int .i64 e.depth), .v (.int .i64 e.ts), .s e.hash, .sl true []]), .row bk 1 3, .sl true (pS.auth.map fun r => [.sl true (r.map intCells)]), .row bw 1 3])) := fun bk bw L fr' hEL hbk hbw hne gk gw hfr => by
    refine hK _ _ (AWp_cut [0] hfr ?_); clear hK hfr K
    simp only [List.zip_cons_cons, List.zip_nil_right]
    have hrk : r ≠ bk := by rintro rfl; rw [g0] at hbk; cases hbk
    have hrw : r ≠ bw := by rintro rfl; rw [g0] at hbw; cases hbw
    have hHk := none_of_ext hE hbk
    have hHw := none_of_ext hE hbw
    have hEr : Ext H L := Ext.trans hE hEL
    refine AWp.snapBox (get_other gk hrk.symm) (AHeap.get_put_same r _ L) ?_
    refine AWp.snapBox (b := bw) (p := r) (get_other (get_other (get_other gw hrw.symm) hne.symm) hrw.symm) (AHeap.get_put_same r _ _) ?_
    simp only [AFr.snap, AV.snap, AV.snaps, AV.snapss, pS, evS, List.map, strCells, intCells, J.kind, J.int, J.text, if_neg hne, if_neg hne.symm, if_true, Nat.le_refl, and_self, List.take, List.length, snap_ptr]
    generalize hL4 : AHeap.put bw _ _ = L4
    have hx4 : Ext H L4 := by rw [← hL4]; exact (((hEr.over hr).over hHk).over hr).over hHw
    clear hL4
    generalize hM5 : AHeap.put r _ L4 = M5
    have g5 : ∀ o, AHeap.put r o L4 = M5 → M5.get r = some o := fun o h => h ▸ AHeap.get_put_same r o L4
    have g5 := g5 _ hM5
    have hx5 : Ext H M5 := by rw [← hM5]; exact hx4.over hr
    clear hM5
    apply AWp_ret
    refine end_ret (av := .agg _) (by show resAV X.P _ _ [.cell 0 35] = _; simp only [go_sem, g5]; rfl) ⟨H, hx5, ?_⟩
    exact h

  apply AWp_drawT [0, 1, 2, 3, 4, 5, 6, 8, 9, 10] [7, 11, 12, 13] (.two 7 (.one 11 (.one 12 (.one 13 .leaf))) 11 (.one 7 (.one 12 (.one 13 .leaf)))) 3 (by exact mixed); kernel_rfl; (simp only [go_sem]; rfl)
  (apply e_lit; decide; exact el_22; (iterate 2 (simp only [go_sem, g1]; rfl)); decide; (iterate 5 (apply e_q; decide; (simp only [go_sem, g1]; rfl))); apply e_lit; decide; exact el_31; (iterate 2 (simp only [go_sem, g1]; rfl)); decide; (iterate 2 (apply e_lit; decide; exact el_38; (iterate 2 (simp only [go_sem, g1]; rfl)); decide)); apply e_lit; decide; exact el_32; (iterate 2 (simp only [go_sem, g1]; rfl)); decide; apply e_nil)
  refine ⟨?_, ?_⟩
  · apply t_make; decide; exact el_32; exact (by simp only [go_sem]; try rfl); exact (by simp only [go_sem]; try rfl); exact zc_38; (refine ⟨by omega, by omega, by decide⟩); (intro _; exact Ext.refl _); intro bk hbk hx1; apply t_nil
    apply t_make; decide; exact el_33; exact (by simp only [go_sem]; try rfl); exact (by simp only [go_sem]; try rfl); exact zc_4; (refine ⟨by omega, by omega, by decide⟩); (intro _; exact hx1 (by decide)); intro bw hbw hx2; apply t_nil
    apply t_q; decide; exact (by simp only [go_sem]; try rfl); (intro _; exact hx2 (by decide)); apply t_nil
    have hne : bk ≠ bw := by rintro rfl; rw [AHeap.get_put_same] at hbw; cases hbw
    have e3 : Int.toNat 3 = 3 := rfl
    simp only [e3] at hbk hbw hx1 hx2
    have gb := get_fresh (get_fresh g0 hbk (x := .row 38 1 false (List.replicate 3 [.sl true []]))) hbw (x := .row 4 1 false (List.replicate 3 [.v (.bool false)]))
    apply t_storex; exact (by simp only [go_sem]; try rfl); exact (by simp only [go_sem]; try rfl); exact (by simp only [go_sem, gb]; try rfl); (intro h; exact absurd h (by decide)); apply t_nil
    simp only [AU, AThen]
    exact hcont bk bw _ _ (hx2 (by decide)) hbk (none_fresh hbw) hne (get_fresh (AHeap.get_put_same bk _ _) hbw) (AHeap.get_put_same bw _ _) rfl
  · apply t_make; decide; exact el_33; exact (by simp only [go_sem]; try rfl); exact (by simp only [go_sem]; try rfl); exact zc_4; (refine ⟨by omega, by omega, by decide⟩); (intro _; exact Ext.refl _); intro bw hbw hx2; apply t_nil
    apply t_make; decide; exact el_32; exact (by simp only [go_sem]; try rfl); exact (by simp only [go_sem]; try rfl); exact zc_38; (refine ⟨by omega, by omega, by decide⟩); (intro _; exact hx2 (by decide)); intro bk hbk hx1; apply t_nil
    apply t_q; decide; exact (by simp only [go_sem]; try rfl); (intro _; exact hx1 (by decide)); apply t_nil
    have hne : bk ≠ bw := by rintro rfl; rw [AHeap.get_put_same] at hbk; cases hbk
    have e3 : Int.toNat 3 = 3 := rfl
    simp only [e3] at hbk hbw hx1 hx2
    have gb := get_fresh (get_fresh g0 hbw (x := .row 4 1 false (List.replicate 3 [.v (.bool false)]))) hbk (x := .row 38 1 false (List.replicate 3 [.sl true []]))
    apply t_storex; exact (by simp only [go_sem]; try rfl); exact (by simp only [go_sem]; try rfl); exact (by simp only [go_sem, gb]; try rfl); (intro h; exact absurd h (by decide)); apply t_nil
    simp only [AU, AThen]
    exact hcont bk bw _ _ (hx1 (by decide)) (none_fresh hbk) hbw hne (AHeap.get_put_same bk _ _) (get_fresh (AHeap.get_put_same bw _ _) hbk) rfl
theorem pS_right : rightB pS = true := by kernel_rfl
theorem pS_pow : powA pS [1, 2] = [2, 1] := by kernel_rfl
theorem pS_lev2 : levA pS 2 = 100 := by kernel_rfl
theorem pS_lev1 : levA pS 1 = 0 := by kernel_rfl
theorem pS_powers1 : powB (evS tPower [64, 98, 58, 115] (.mk 5 0 [] [] [])) = true := by kernel_rfl
theorem pS_powers0 : powB (evS tCreate [64, 97, 58, 115] (.mk 0 0 [] [] [])) = false := by kernel_rfl
theorem pS_near : nearA pS [] 1 = 0 := by kernel_rfl
theorem evS_wide (t s : List UInt8) (k : Int) (h : s.length ≤ 4611686018427387904) : (evS t s (.mk k 0 [] [] [])).Wide := ⟨J.len_eq.2 ⟨by simp [evS, J.keys], by simp [evS, J.list], by simp [evS, J.list]⟩, by simp [evS], by simp [evS], by simp [evS], h⟩
theorem evS_sml (t s : List UInt8) (k : Int) : Sml (evS t s (.mk k 0 [] [] [])).content := .mk ⟨by simp [evS, J.keys], by simp [evS, J.list], by simp [evS, J.text]⟩ (by simp [evS, J.keys]) (by simp [evS, J.list])
theorem pS_evs : ∀ e ∈ pS.events, e.Wide ∧ Sml e.content := fun e he => by
  simp only [pS, List.mem_cons, List.not_mem_nil, or_false] at he
  rcases he with rfl | rfl | rfl
  · exact ⟨evS_wide _ _ _ (by decide), evS_sml _ _ _⟩
  · exact ⟨evS_wide _ _ _ (by decide), evS_sml _ _ _⟩
  · exact ⟨evS_wide _ _ _ (by decide), evS_sml _ _ _⟩
theorem pS_wide : pS.Wide where
  nm := by decide
  ev := by decide
  pr := by decide
  au := by decide
  de := by decide
  evs := fun e he => (pS_evs e he).1
  prs := by decide
  aus := by decide
  nms := by decide
set_option maxHeartbeats 2000000 in
theorem awake_c (H : AHeap) (K : AV → AHeap → Prop) (h : K (.v (.bool true)) H) : ACall X 14 [] H K := by
  have hR : ∀ (H : AHeap) (K : AV → AHeap → Prop), K (.v (.bool true)) H → ACall X 25 [.agg (pCells pS)] H K := fun H K hk => right_c pS pS_wide H K (by rw [pS_right]; exact hk)
  have hsm : ∀ e ∈ pS.events, Sml e.content := fun e he => (pS_evs e he).2
  have hP : ∀ (H : AHeap) (K : AV → AHeap → Prop), K (.sl false [[.v (.int .i64 2)], [.v (.int .i64 1)]]) H → ACall X 19 [.agg (pCells pS), .sl true [[.v (.int .i64 1)], [.v (.int .i64 2)]]] H K := fun H K hk => byPower_c pS pS_wide hsm (by decide) true [1, 2] (by decide) H K (by rw [pS_pow]; exact hk)
  have hS : ∀ (H : AHeap) (K : AV → AHeap → Prop), K (.v (.bool true)) H → ACall X 18 [.sl false [[.v (.int .i64 2)], [.v (.int .i64 1)]], .sl true [[.v (.int .i64 2)], [.v (.int .i64 1)]]] H K := fun H K hk => same12_c false true [2, 1] [2, 1] (by decide) H K hk
  have hL2 : ∀ (H : AHeap) (K : AV → AHeap → Prop), K (.v (.int .i64 100)) H → ACall X 16 [.agg (pCells pS), .v (.int .i64 2)] H K := fun H K hk => level12_c pS pS_wide hsm 2 H K (by rw [pS_lev2]; exact hk)
  have hL1 : ∀ (H : AHeap) (K : AV → AHeap → Prop), K (.v (.int .i64 0)) H → ACall X 16 [.agg (pCells pS), .v (.int .i64 1)] H K := fun H K hk => level12_c pS pS_wide hsm 1 H K (by rw [pS_lev1]; exact hk)
  have hN : ∀ (H : AHeap) (K : AV → AHeap → Prop), K (.v (.int .i64 0)) H → ACall X 23 [.agg (pCells pS), .sl true [], .v (.int .i64 1)] H K := fun H K hk => near_c pS pS_wide (by decide) true [] (by decide) 1 H K (by rw [pS_near]; exact hk)
  have hW1 : ∀ (H : AHeap) (K : AV → AHeap → Prop), K (.v (.bool true)) H → ACall X 12 [.agg (evS tPower [64, 98, 58, 115] (.mk 5 0 [] [] [])).cells] H K := fun H K hk => powers_c _ (evS_wide _ _ _ (by decide)) H K (by rw [pS_powers1]; exact hk)
  have hW0 : ∀ (H : AHeap) (K : AV → AHeap → Prop), K (.v (.bool false)) H → ACall X 12 [.agg (evS tCreate [64, 97, 58, 115] (.mk 0 0 [] [] [])).cells] H K := fun H K hk => powers_c _ (evS_wide _ _ _ (by decide)) H K (by rw [pS_powers0]; exact hk)
  have hSa : ∀ (H : AHeap) (K : AV → AHeap → Prop), K (.agg (pCells pS)) H → ACall X 35 [] H K := fun H K hk => sample_c H K hk
  have ge0 : (pS.events.map Ev.cells)[0]? = some (evS tCreate [64, 97, 58, 115] (.mk 0 0 [] [] [])).cells := rfl
  have ge1 : (pS.events.map Ev.cells)[1]? = some (evS tPower [64, 98, 58, 115] (.mk 5 0 [] [] [])).cells := rfl
  refine ACall.drop ?_
  refine ACall_intro Tryz.func14 rfl (by kernel_rfl) (by rw [Tryz.ntmps14]; simp) ?_; rw [Tryz.ntmps14]; simp only [frame0, Nat.reduceAdd]
  (apply sR; intro K hK; refine qr ?_; refine s_nil (hK _ _ ?_); clear hK K; apply sR; intro K hK; apply s_call; decide; (iterate 2 (simp only [go_sem]; rfl)); apply hSa; apply s_alloc; decide; exact zc_35; intro b hb; apply s_store; (iterate 3 (simp only [go_sem]; rfl)); refine s_nil (hK _ _ ?_); clear hK K; apply sR; intro K hK; refine qr ?_)
  obtain ⟨q, hnewq⟩ : ∃ q, q = b := ⟨_, rfl⟩; have hq := hb; rw [← hnewq] at hq ⊢; clear hb hnewq; try clear he; clear b
  generalize hgenq : AHeap.put q _ H = M; obtain ⟨g1, hextq⟩ := gen_ex hgenq hq; have hE := hextq; clear hextq hgenq
  (apply s_call; decide; (iterate 2 (simp only [go_sem, g1, ge0, ge1]; rfl)); apply hR; apply s_q; decide; rfl; (simp only [go_sem, g1, ge0, ge1]; rfl); apply s_spec; decide; rfl; rfl; (iterate 4 (simp only [go_sem, g1, ge0, ge1]; rfl)); trivial; apply s_glit; decide; (iterate 3 (simp only [go_sem, g1, ge0, ge1]; rfl)); trivial; exact el_38; (iterate 2 (simp only [go_sem, g1, ge0, ge1]; rfl)); decide; apply s_gpure; decide; (iterate 3 (simp only [go_sem, g1, ge0, ge1]; rfl)); trivial; (iterate 2 (simp only [go_sem, g1, ge0, ge1]; rfl)); (apply hP; exact ⟨rfl, rfl⟩); apply s_glit; decide; (iterate 3 (simp only [go_sem, g1, ge0, ge1]; rfl)); trivial; exact el_38; (iterate 2 (simp only [go_sem, g1, ge0, ge1]; rfl)); decide; apply s_gpure; decide; (iterate 3 (simp only [go_sem, g1, ge0, ge1]; rfl)); trivial; (iterate 2 (simp only [go_sem, g1, ge0, ge1]; rfl)); (apply hS; exact ⟨rfl, rfl⟩); apply s_pick; decide; (iterate 6 (simp only [go_sem, g1, ge0, ge1]; rfl)); trivial; trivial; trivial; apply s_q; decide; rfl; (simp only [go_sem, g1, ge0, ge1]; rfl); apply s_spec; decide; rfl; rfl; (iterate 4 (simp only [go_sem, g1, ge0, ge1]; rfl)); trivial; apply s_gpure; decide; (iterate 3 (simp only [go_sem, g1, ge0, ge1]; rfl)); trivial; (iterate 2 (simp only [go_sem, g1, ge0, ge1]; rfl)); (apply hL2; exact ⟨rfl, rfl⟩); apply s_spec; decide; rfl; rfl; (iterate 4 (simp only [go_sem, g1, ge0, ge1]; rfl)); trivial; apply s_pick; decide; (iterate 6 (simp only [go_sem, g1, ge0, ge1]; rfl)); trivial; trivial; trivial; apply s_q; decide; rfl; (simp only [go_sem, g1, ge0, ge1]; rfl); apply s_spec; decide; rfl; rfl; (iterate 4 (simp only [go_sem, g1, ge0, ge1]; rfl)); trivial; apply s_gpure; decide; (iterate 3 (simp only [go_sem, g1, ge0, ge1]; rfl)); trivial; (iterate 2 (simp only [go_sem, g1, ge0, ge1]; rfl)); (apply hL1; exact ⟨rfl, rfl⟩); apply s_spec; decide; rfl; rfl; (iterate 4 (simp only [go_sem, g1, ge0, ge1]; rfl)); trivial; apply s_pick; decide; (iterate 6 (simp only [go_sem, g1, ge0, ge1]; rfl)); trivial; trivial; trivial; apply s_q; decide; rfl; (simp only [go_sem, g1, ge0, ge1]; rfl); (iterate 2 (apply s_spec; decide; rfl; rfl; (iterate 4 (simp only [go_sem, g1, ge0, ge1]; rfl)); trivial)); apply s_when; decide; (iterate 3 (simp only [go_sem, g1, ge0, ge1]; rfl)); trivial; (intro hg; (focus (simp only [go_sem, g1, ge0, ge1]; (try rfl); done))); apply s_spec; decide; rfl; rfl; (iterate 4 (simp only [go_sem, g1, ge0, ge1]; rfl)); trivial; apply s_gpure; decide; (iterate 3 (simp only [go_sem, g1, ge0, ge1]; rfl)); trivial; (iterate 2 (simp only [go_sem, g1, ge0, ge1]; rfl)); (apply hW1; exact ⟨rfl, rfl⟩); apply s_pick; decide; (iterate 6 (simp only [go_sem, g1, ge0, ge1]; rfl)); trivial; trivial; trivial; apply s_q; decide; rfl; (simp only [go_sem, g1, ge0, ge1]; rfl); (iterate 2 (apply s_spec; decide; rfl; rfl; (iterate 4 (simp only [go_sem, g1, ge0, ge1]; rfl)); trivial)); apply s_when; decide; (iterate 3 (simp only [go_sem, g1, ge0, ge1]; rfl)); trivial; (intro hg; (focus (simp only [go_sem, g1, ge0, ge1]; (try rfl); done))); apply s_spec; decide; rfl; rfl; (iterate 4 (simp only [go_sem, g1, ge0, ge1]; rfl)); trivial; apply s_gpure; decide; (iterate 3 (simp only [go_sem, g1, ge0, ge1]; rfl)); trivial; (iterate 2 (simp only [go_sem, g1, ge0, ge1]; rfl)); (apply hW0; exact ⟨rfl, rfl⟩); apply s_spec; decide; rfl; rfl; (iterate 4 (simp only [go_sem, g1, ge0, ge1]; rfl)); trivial; apply s_pick; decide; (iterate 6 (simp only [go_sem, g1, ge0, ge1]; rfl)); trivial; trivial; trivial; apply s_q; decide; rfl; (simp only [go_sem, g1, ge0, ge1]; rfl); apply s_spec; decide; rfl; rfl; (iterate 4 (simp only [go_sem, g1, ge0, ge1]; rfl)); trivial; apply s_gpure; decide; (iterate 3 (simp only [go_sem, g1, ge0, ge1]; rfl)); trivial; (iterate 2 (simp only [go_sem, g1, ge0, ge1]; rfl)); (apply hN; exact ⟨rfl, rfl⟩); apply s_spec; decide; rfl; rfl; (iterate 4 (simp only [go_sem, g1, ge0, ge1]; rfl)); trivial; apply s_pick; decide; (iterate 6 (simp only [go_sem, g1, ge0, ge1]; rfl)); trivial; trivial; trivial; apply s_q; decide; rfl; (simp only [go_sem, g1, ge0, ge1]; rfl); refine s_nil (hK _ _ ?_); clear hK K; apply AWp_ret)
  exact ⟨H, hE, h⟩

theorem wrapM {i n : Nat} (h : i < n) (hn : n ≤ 1000000) : IntKind.i64.wrap ((i : Int) - 1 + 1) = ((i + 1 : Nat) : Int) - 1 := by rw [wrap64 (by omega)]; omega
set_option maxHeartbeats 1000000 in
theorem law_levels (p : Pa) (hw : p.Wide) (H : AHeap) (K : AV → AHeap → Prop) (h : K (.v (.bool true)) H) : ACall X 4 [.agg p.cells] H K := by
  have hF : ∀ (H : AHeap) (K : AV → AHeap → Prop), (∀ b, (b = true → p.Few) → K (.v (.bool b)) H) → ACall X 15 [.agg (pCells p)] H K := fun H K hk => few12_c p hw H K hk
  refine ACall.drop ?_
  rw [show p.cells = pCells p from rfl]
  refine ACall_intro Tryz.func4 rfl (by kernel_rfl) (by rw [Tryz.ntmps4]; simp) ?_; rw [Tryz.ntmps4]; simp only [frame0, Nat.reduceAdd]
  apply sR; intro K hK
  apply s_box; decide; exact (by simp only [go_sem]; try rfl); exact (by simp only [go_sem]; try rfl); intro q hq
  generalize hgenq : AHeap.put q _ H = M; obtain ⟨g1, hextq⟩ := gen_ex hgenq hq; have hE := hextq; clear hextq hgenq
  (apply s_q; decide; rfl; (simp only [go_sem, g1]; rfl); refine s_nil (hK _ _ ?_); clear hK K; apply sK; intro K hK; apply sR; intro K hK; apply s_q; decide; rfl; (simp only [go_sem, g1]; rfl); apply s_call; decide; (iterate 2 (simp only [go_sem, g1]; rfl)); apply hF; intro b hb; apply s_q; decide; rfl; (simp only [go_sem, g1]; rfl); refine s_nil (hK _ _ ?_); clear hK K)
  refine cs (fun hc => ?_) (fun hc => ?_)
  · (apply sR; intro K hK; refine qr ?_; refine s_nil (hK _ _ ?_); clear hK K; apply AWp_ret; simp only [AThen, ABlock]; apply end_ret; rfl; simp only [AFr.get, reduceIte, Nat.reduceEqDiff])
    exact ⟨H, hE, h⟩
  have hf : p.Few := by cases b <;> simp at hc hb <;> exact hb
  have hev := hf.ev
  have h1 : ∀ (i : Int) (H : AHeap) (K : AV → AHeap → Prop), K (.v (.int .i64 (levA p i))) H → ACall X 16 [.agg (pCells p), .v (.int .i64 i)] H K := fun i H K hk => level12_c p hw hf.sml i H K hk
  have h2 : ∀ (i : Int) (H : AHeap) (K : AV → AHeap → Prop), K (.v (.int .i64 (levA p i))) H → ACall X 17 [.agg (pCells p), .v (.int .i64 i)] H K := fun i H K hk => rlevel12_c p hw hf.sml i H K hk
  (refine AWp_skip (hK _ _ ?_); clear hK K; apply sK; intro K hK; apply sR; intro K hK; refine qr ?_; refine s_nil (hK _ _ ?_); clear hK K; apply AWp_block)
  refine AWp_loop_s (σ := Nat) [1, 3] (fun i => [ptrTo q, .v (.int .i64 ((i : Int) - 1))]) (fun _ => M) (fun i => p.events.length + 2 - i) (fun i => i ≤ p.events.length + 2) 0 (Nat.zero_le _) rfl rfl (fun i hi => ?_)
  simp only [List.zip_cons_cons, List.zip_nil_right]
  (apply sK; intro K hK; apply sR; intro K hK; (iterate 5 (apply s_q; decide; rfl; (simp only [go_sem, g1]; rfl))); refine s_nil (hK _ _ ?_); clear hK K)
  refine cs (fun hd => ?_) (fun hd => ?_)
  · have hlt : i < p.events.length + 2 := by simp at hd; omega
    (refine AWp_skip (hK _ _ ?_); clear hK K; apply sK; intro K hK; apply AWp_block; apply sK; intro K hK)
    apply AWp_drawA [0, 1, 2, 3, 4, 5, 6] [] 0 (by exact mixed); kernel_rfl; (iterate 2 (simp only [go_sem]; rfl))
    ((iterate 2 (apply e_q; decide; (simp only [go_sem, g1]; rfl))); apply e_call; decide; (iterate 2 (simp only [go_sem, g1]; rfl)); (apply h1; exact ⟨rfl, rfl⟩); (iterate 2 (apply e_q; decide; (simp only [go_sem, g1]; rfl))); apply e_call; decide; (iterate 2 (simp only [go_sem, g1]; rfl)); (apply h2; exact ⟨rfl, rfl⟩); apply e_q; decide; (simp only [go_sem, g1]; rfl); apply e_nil; refine t_nil (hK _ _ ?_); clear hK K)
    refine cs (fun he => ?_) (fun he => ?_)
    · simp at he
    (refine AWp_skip (hK _ _ ?_); clear hK K; apply s_region; (iterate 3 (refine qr ?_)); apply s_nil; simp only [AThen, ABlock])
    refine ⟨i + 1, by omega, by omega, ?_, by trivial⟩
    simp only [getAll, List.map, AFr.get, reduceIte, Nat.reduceEqDiff]
    rw [wrapM hlt (by omega)]
  · (apply AWp_exit; simp only [AThen, ABlock, reduceIte, Nat.reduceEqDiff]; clear hK K; refine hK _ _ ?_; clear hK K; apply sR; intro K hK; apply s_call; decide; (iterate 2 (simp only [go_sem]; rfl)); apply awake_c; refine qr ?_; refine s_nil (hK _ _ ?_); clear hK K; apply AWp_ret)
    exact ⟨H, hE, h⟩
end Go.Proofs.YtcpfgjfiacfmoaaGreatDoor
