/-
  Line and Near on both sides. Contracts.
-/
import Derived.Test.YtcpfgjfiacfmoaaGreatDoorBPart7
import Derived.Test.YtcpfgjfiacfmoaaGreatDoorBPart6
import Derived.Shelf.SlGeneric
import Derived.Shelf.Small.Bits
import Derived.Shelf.Sort.Plain
import Derived.Ground.Names2Prog
import Derived.Ground.NamesProg
import Derived.Shelf.Slices.CompactI
import Derived.Shelf.Slices.Cells
import Derived.Shelf.Slices.In.SortNone
import Derived.Ground.SlsfProg
import Derived.Shelf.SlSortCmp.Whole1
import Derived.Shelf.SlSortCmp.NoneTotal
import Derived.Shelf.Spec.SlicesInsert
import Derived.Shelf.Spec.SlicesInsertGrow
import Derived.Test.YtcpfgjfiacfmoaaGreatDoorProg
import Derived.Test.YtcpfgjfiacfmoaaGreatDoorBAL4
import Derived.Test.YtcpfgjfiacfmoaaGreatDoorBPart4
import Derived.Test.YtcpfgjfiacfmoaaGreatDoorBPart5
set_option linter.unusedSimpArgs false
set_option linter.unusedVariables false
set_option maxRecDepth 100000
namespace Go.Proofs.YtcpfgjfiacfmoaaGreatDoor
open Go Go.AL
attribute [local irreducible] AOps AWp SOps AE AT ACall AApp

set_option maxHeartbeats 4000000 in
theorem appendSeqB_c (p : Pa) (hw : p.Wide) (hr : p.Right) (i0 : Int) (q c : Nat) (hcq : c ≠ q) (hl : (lineP p i0).length ≤ 1000000) (H0 H : AHeap) (hE0 : Ext H0 H) (hq0 : H0.get q = none) (hc0 : H0.get c = none) (hq : H.get q = some (paBox p)) (hc : H.get c = some (ibox i0)) (Kc : AV → AHeap → Prop)
    (h : ∀ s L, Ext H0 L → RowAt 3 1 H0 L ((lineP p i0).map intCells) s → Kc s L) : ACall X 92 [.sl true [], .fn (.func 93) [] [ptrTo q, ptrTo c]] H Kc := by
  obtain ⟨l, hle⟩ : ∃ l, lineP p i0 = l := ⟨_, rfl⟩
  rw [hle] at hl h
  refine ACall_intro Tryz.func92 rfl (by kernel_rfl) (by rw [Tryz.ntmps92]; simp) ?_; rw [Tryz.ntmps92]; simp only [frame0, Nat.reduceAdd]
  refine AWp_seq_k (fun K hK => ?_); apply s_region
  apply s_box; decide; exact (by simp only [go_sem]; try rfl); exact (by simp only [go_sem]; try rfl); intro B hB
  have e1 := AHeap.get_put_same B (.box 38 [.sl true []]) H
  have e2 := get_fresh hq hB (x := .box 38 [.sl true []])
  have e2c := get_fresh hc hB (x := .box 38 [.sl true []])
  have e3 := hE0.put hB (ob := .box 38 [.sl true []])
  have hHB : H0.get B = none := none_of_ext hE0 hB
  have hBq : q ≠ B := by rintro rfl; rw [hq] at hB; cases hB
  have hBc : c ≠ B := by rintro rfl; rw [hc] at hB; cases hB
  generalize AHeap.put B (.box 38 [.sl true []]) H = M at e1 e2 e2c e3 ⊢
  (apply s_q; decide; rfl; (simp only [go_sem]; rfl); apply s_nil; simp only [AThen, ABlock]; refine hK _ _ ?_; clear hK K; (iterate 2 (refine AWp_seq_k (fun K hK => ?_))); apply s_region; apply s_q; decide; rfl; (simp only [go_sem]; rfl); apply s_nil; simp only [AThen, ABlock]; refine hK _ _ ?_; clear hK K; apply AWp_block)
  refine AWp_cut [2, 6] (vs := [ptrTo B, .fn (.func 93) [] [ptrTo q, ptrTo c]]) rfl ?_
  simp only [List.zip_cons_cons, List.zip_nil_right]
  apply AWp_rangeFunc; exact (by simp only [go_sem]; try rfl); intro y hy
  generalize hlo : AObj.loop 13 _ _ _ _ LoopState.ready none = lo
  have y1 := get_ne_fresh e1 hy
  have y2 := get_ne_fresh e2 hy
  have y3 := get_ne_fresh e2c hy
  have hHy : H0.get y = none := none_of_ext e3 hy
  refine iterB_c p hw hr i0 y q c (fun n L => L.get y = some lo ∧ L.get q = some (paBox p) ∧ (∃ v, L.get c = some (ibox v)) ∧ Ext H0 L ∧ ∃ sv, L.get B = some (.box 38 [sv]) ∧ RowAt 3 1 H0 L ((l.take n).map intCells) sv) _ (fun n L h => h.2.1) ?_ ?_ ?_ _ ?_ (get_fresh e2c hy)
  · rintro n L v ⟨g1, g2, ⟨v0, g3⟩, g4, sv, g5, g6⟩
    exact ⟨by rw [AHeap.get_put, if_neg (Ne.symm y3)]; exact g1, by rw [AHeap.get_put, if_neg (Ne.symm hcq)]; exact g2, ⟨v, AHeap.get_put_same _ _ _⟩, g4.over hc0, sv, by rw [AHeap.get_put, if_neg (Ne.symm hBc)]; exact g5, g6.put g3 (fun _ _ _ h => by cases h)⟩
  · rintro n x L hx ⟨g1, g2, _, g3, sv, g4, gR⟩ gc
    rw [hle] at hx
    obtain ⟨g5, g6⟩ : HeldAt 3 1 L ((l.take n).map intCells) sv ∧ (∀ b n, sv = .row b 1 n → H0.get b = none) := by
      rcases gR with ⟨rfl, h0⟩ | ⟨b, h1, rfl, h3⟩
      · exact ⟨.inl (by rw [h0]), by intro b n h; cases h⟩
      · exact ⟨.inr ⟨b, rfl, h3⟩, by intro b' n h; cases h; exact h1⟩
    rw [← hlo] at g1
    apply AYield_intro g1 rfl; decide
    simp only [putAll, List.toList_toArray]
    (apply s_region; apply s_q; (dsimp only; decide); rfl; (simp only [go_sem]; rfl); apply s_nil; simp only [AThen, ABlock])
    refine ⟨g1, ?_⟩
    generalize hlb : AObj.loop 13 _ _ _ _ LoopState.busy none = lb
    have c2 : (L.put y lb).get q = some (paBox p) := by rw [AHeap.get_put, if_neg y2]; exact g2
    have c2c : (L.put y lb).get c = some (ibox x) := by rw [AHeap.get_put, if_neg y3]; exact gc
    have c3 := g3.over (o := lb) hHy
    have c4 : (L.put y lb).get B = some (.box 38 [sv]) := by rw [AHeap.get_put, if_neg y1]; exact g4
    have c5 := g5.put g1 (fun _ _ _ h => by cases h) (o' := lb)
    have d1 := AHeap.get_put_same y lb L
    have hnl : n < l.length := (List.getElem?_eq_some_iff.1 hx).1
    generalize L.put y lb = N at c2 c2c c3 c4 c5 d1 ⊢
    have hlen1 : ∀ e ∈ ((l.take n).map intCells), e.length = 1 := fun e he => by
      obtain ⟨d, _, rfl⟩ := List.mem_map.1 he; rfl
    have hne : ∀ q o', N.get q = some o' → (∀ sz sn es, o' ≠ .row 3 sz sn es) → ∀ b, sv = .row b 1 ((l.take n).map intCells).length → q ≠ b := by
      rintro q o' hq' ho' b hb rfl
      rcases c5 with h1 | ⟨b2, h1, h2⟩
      · rw [h1] at hb; cases hb
      · rw [h1] at hb; cases hb
        rw [h2] at hq'; cases hq'
        exact ho' _ _ _ rfl
    (apply AWp_block; apply s_region; (iterate 2 (apply s_q; (dsimp only; decide); rfl; (simp only [go_sem, c4]; rfl))); apply s_lit; (dsimp only; decide); exact el_38; (simp only [go_sem, c4]; rfl); (simp only [go_sem, c4]; rfl); decide; apply s_append; (dsimp only; decide); (simp only [go_sem, c4]; rfl); (simp only [go_sem, c4]; rfl); apply AApp_push el_38 c5 hlen1 (nes := [[.v (.int .i64 x)]]) (fun M => src_sl tk_38 (fun e he => by simp at he; subst he; exact ⟨rfl, rfl⟩)) (by simp) (by simp; omega) (by simp; omega); intro nb L2 k1 k2)
    have f1 := (k2 y _ d1 (hne y _ d1 (by rw [← hlb]; intro _ _ _ h; cases h))).1
    have f2 := (k2 q _ c2 (hne q _ c2 (by intro _ _ _ h; cases h))).1
    have f2c := (k2 c _ c2c (hne c _ c2c (by intro _ _ _ h; cases h))).1
    have f6 : Ext H0 L2 := fun q o' hq' => (k2 q o' (c3 q o' hq') (by rintro b hb rfl; rw [g6 _ _ hb] at hq'; cases hq')).1
    have f8 := (k2 B _ c4 (hne B _ c4 (by intro _ _ _ h; cases h))).1
    have f10 : H0.get nb = none := by
      cases hx2 : H0.get nb with
      | none => rfl
      | some o' => exact absurd rfl (k2 nb o' (c3 nb o' hx2) (by rintro b hb rfl; rw [g6 _ _ hb] at hx2; cases hx2)).2
    have hnbB : nb ≠ B := by rintro rfl; rw [f8] at k1; cases k1
    have hnby : nb ≠ y := by rintro rfl; rw [f1] at k1; rw [← hlb] at k1; cases k1
    have hpp : ((l.take n).map intCells ++ [[.v (.int .i64 x)]]) = (l.take (n + 1)).map intCells := by rw [take_succ hx]; simp [intCells]
    have f12 : (L2.put B (.box 38 [.row nb 1 ((l.take n).map intCells ++ [[AV.v (.int .i64 x)]]).length])).get y = some lb := by rw [AHeap.get_put, if_neg (Ne.symm y1)]; exact f1
    (apply s_store; (simp only [go_sem, f8]; rfl); (simp only [go_sem, f8]; rfl); (simp only [go_sem, f8]; rfl); apply s_nil; simp only [AThen, ABlock])
    simp only [ABlock, ARound]
    refine ⟨by rw [hlb]; exact f12, .inl ⟨by trivial, ⟨?_, ?_, ⟨x, ?_⟩, ?_, .row nb 1 ((l.take n).map intCells ++ [[AV.v (.int .i64 x)]]).length, ?_, ?_⟩, ?_⟩⟩
    · rw [AHeap.get_put_same, hlo]
    · rw [AHeap.get_put, if_neg y2, AHeap.get_put, if_neg hBq]; exact f2
    · rw [AHeap.get_put, if_neg y3, AHeap.get_put, if_neg hBc]; exact f2c
    · exact (f6.over hHB).over hHy
    · rw [AHeap.get_put, if_neg y1, AHeap.get_put_same]
    · rw [hpp] at k1 ⊢
      exact .inr ⟨nb, f10, rfl, by rw [AHeap.get_put, if_neg hnby, AHeap.get_put, if_neg hnbB]; exact k1⟩
    · rw [AHeap.get_put, if_neg y3, AHeap.get_put, if_neg hBc]; exact f2c
  · rw [hle]
    rintro L ⟨g1, g2, _, g3, sv, g4, g5⟩
    refine ⟨_, .ready, none, by rw [g1, ← hlo], by simp, ?_⟩
    simp only [ABlock, AThen]
    have hlor : ∀ sz sn es, lo ≠ .row 3 sz sn es := by rw [← hlo]; intro _ _ _ h; cases h
    have q1 : (AHeap.del y L).get B = some (.box 38 [sv]) := by rw [AHeap.get_del, if_neg y1]; exact g4
    have q2 := g3.del hHy
    have q3 := g5.del g1 hlor
    rw [List.take_length] at q3
    refine hK _ _ ?_
    (refine AWp_seq_k (fun K hK => ?_); apply s_region; (iterate 2 (apply s_q; decide; rfl; (simp only [go_sem, q1]; rfl))); apply s_nil; simp only [AThen, ABlock]; refine hK _ _ ?_; clear hK K; apply AWp_ret)
    exact h sv _ q2 q3
  · exact ⟨AHeap.get_put_same _ _ _, get_fresh e2 hy, ⟨i0, get_fresh e2c hy⟩, e3.put hy, .sl true [], get_fresh e1 hy, .inl ⟨rfl, rfl⟩⟩
def lineA (p : Pa) (i : Int) : List Int := if rightB p = true then lineP p i else []
set_option maxHeartbeats 4000000 in
theorem line_c (p : Pa) (hw : p.Wide) (hn : p.events.length ≤ 1000) (i : Int) (H : AHeap) (Kc : AV → AHeap → Prop) (h : Kc (.sl false ((lineA p i).map intCells)) H) : ACall X 21 [.agg p.cells, .v (.int .i64 i)] H Kc := by
  refine ACall.gr (e := 3) (sz := 1) h ?_
  clear h
  have hR : ∀ (H : AHeap) (K : AV → AHeap → Prop), K (.v (.bool (rightB p))) H → ACall X 25 [.agg [.sl false (p.names.map strCells), .sl false (p.events.map Ev.cells), .sl false (p.prev.map rowCells), .sl false (p.auth.map rowCells), .sl false (p.denied.map bolCells)]] H K := fun H K hK => right_c p hw H K hK
  rw [Pa.cells]
  refine ACall_intro Tryz.func21 rfl (by kernel_rfl) (by rw [Tryz.ntmps21]; simp) ?_; rw [Tryz.ntmps21]; simp only [frame0, Nat.reduceAdd]
  refine AWp_seq_k (fun K hK => ?_); apply s_region
  apply s_box; decide; exact (by simp only [go_sem]; try rfl); exact (by simp only [go_sem]; try rfl); intro q hq
  generalize hgenq : AHeap.put q _ H = M; obtain ⟨g1, hextq⟩ := gen_ex hgenq hq; have hE := hextq; clear hextq hgenq
  (apply s_q; decide; rfl; (simp only [go_sem, g1]; rfl); apply s_nil; simp only [AThen, ABlock]; refine hK _ _ ?_; clear hK K; (iterate 2 (refine AWp_seq_k (fun K hK => ?_))); apply s_region; apply s_q; decide; rfl; (simp only [go_sem, g1]; rfl); apply s_call; decide; (simp only [go_sem, g1]; rfl); (simp only [go_sem, g1]; rfl); apply hR; apply s_q; decide; rfl; (simp only [go_sem, g1]; rfl); apply s_nil; simp only [AThen, ABlock]; refine hK _ _ ?_; clear hK K)
  refine cond_split (by simp only [go_sem]; try rfl) (fun hc => ?_) (fun hc => ?_)
  · have hc : rightB p = false := by simpa using hc
    (refine AWp_seq_k (fun K hK => ?_); apply s_region; apply s_q; decide; rfl; (simp only [go_sem]; rfl); apply s_nil; simp only [AThen, ABlock]; refine hK _ _ ?_; clear hK K; apply AWp_ret; simp only [AThen, ABlock]; apply end_ret; rfl; simp only [AFr.get, reduceIte, Nat.reduceEqDiff])
    rw [lineA, if_neg (by rw [hc]; decide)]
    exact ⟨M, hE, .inl ⟨rfl, rfl, rfl⟩⟩
  have hc : rightB p = true := by simpa using hc
  have hr := right_true hc
  have hlen := lineP_len (p := p) (i := i)
  have hBk : ∀ (H : AHeap) (K : AV → AHeap → Prop), (∀ q c, H.get q = none → (H.put q (paBox p)).get c = none → K (.fn (.func 93) [] [ptrTo q, ptrTo c]) ((H.put q (paBox p)).put c (ibox i))) → ACall X 57 [.agg [.sl false (p.names.map strCells), .sl false (p.events.map Ev.cells), .sl false (p.prev.map rowCells), .sl false (p.auth.map rowCells), .sl false (p.denied.map bolCells)], .v (.int .i64 i)] H K := fun H K hK => back_c p i H K hK
  (apply AWp_skip; simp only [AThen, ABlock]; refine hK _ _ ?_; clear hK K; refine AWp_seq_k (fun K hK => ?_); apply s_region; (iterate 2 (apply s_q; decide; rfl; (simp only [go_sem, g1]; rfl))); apply s_call; decide; (simp only [go_sem, g1]; rfl); (simp only [go_sem, g1]; rfl); apply hBk; intro b c hb hc2)
  have hcb : c ≠ b := by rintro rfl; rw [AHeap.get_put_same] at hc2; cases hc2
  have k1 := get_fresh (AHeap.get_put_same b (paBox p) M) hc2 (x := ibox i)
  have k2 := AHeap.get_put_same c (ibox i) (M.put b (paBox p))
  have k3 := (hE.put hb (ob := paBox p)).put hc2 (ob := ibox i)
  have hHb : H.get b = none := none_of_ext hE hb
  have hHc : H.get c = none := none_of_ext (hE.put hb (ob := paBox p)) hc2
  generalize (M.put b (paBox p)).put c (ibox i) = M2 at k1 k2 k3 ⊢
  have hC : ∀ (K : AV → AHeap → Prop), (∀ s L, Ext H L → RowAt 3 1 H L ((lineP p i).map intCells) s → K s L) → ACall X 56 [.fn (.func 93) [] [ptrTo b, ptrTo c]] M2 K := fun K hK => by
    refine ACall_intro Tryz.func56 rfl (by kernel_rfl) (by rw [Tryz.ntmps56]; simp) ?_; rw [Tryz.ntmps56]; simp only [frame0, Nat.reduceAdd]
    (refine AWp_seq_k (fun K hK => ?_); apply s_region; apply s_q; decide; rfl; (simp only [go_sem]; rfl); apply s_nil; simp only [AThen, ABlock]; refine hK _ _ ?_; clear hK K; refine AWp_seq_k (fun K hK => ?_); apply s_region; apply s_q; decide; rfl; (simp only [go_sem]; rfl); apply s_call; decide; (simp only [go_sem]; rfl); (simp only [go_sem]; rfl); apply appendSeqB_c p hw hr i b c hcb (by omega) H M2 k3 hHb hHc k1 k2; intro s L h1 h2; apply s_q; decide; rfl; (simp only [go_sem]; rfl); apply s_nil; simp only [AThen, ABlock]; refine hK _ _ ?_; clear hK K; apply AWp_ret)
    exact hK s L h1 h2
  have hfin : lineA p i = lineP p i := by rw [lineA, if_pos hc]
  (apply s_call; decide; (simp only [go_sem]; rfl); (simp only [go_sem]; rfl); apply hC; intro s L h1 h2; apply s_q; decide; rfl; (simp only [go_sem]; rfl); apply s_nil; simp only [AThen, ABlock]; refine hK _ _ ?_; clear hK K; apply AWp_ret)
  rw [hfin]
  obtain ⟨L0, h3, h4⟩ := h2.toGr h1
  exact ⟨L0, h3, h4⟩
set_option maxHeartbeats 4000000 in
theorem rline_c (p : Pa) (hw : p.Wide) (hn : p.events.length ≤ 1000) (i : Int) (H : AHeap) (Kc : AV → AHeap → Prop) (h : Kc (.sl false ((lineA p i).map intCells)) H) : ACall X 22 [.agg p.cells, .v (.int .i64 i)] H Kc := by
  refine ACall.gr (e := 3) (sz := 1) h ?_
  clear h
  have hw2 := hw.ev
  have hR : ∀ (H : AHeap) (K : AV → AHeap → Prop), K (.v (.bool (rightB p))) H → ACall X 26 [.agg [.sl false (p.names.map strCells), .sl false (p.events.map Ev.cells), .sl false (p.prev.map rowCells), .sl false (p.auth.map rowCells), .sl false (p.denied.map bolCells)]] H K := fun H K hK => rright_c p hw H K hK
  have hB : rightB p = true → inR p.events.length i = true → lineA p i = lineL p i := fun h1 h2 => by rw [lineA, if_pos h1, lineP, if_pos h2]
  rw [Pa.cells]
  refine ACall_intro Tryz.func22 rfl (by kernel_rfl) (by rw [Tryz.ntmps22]; simp) ?_; rw [Tryz.ntmps22]; simp only [frame0, Nat.reduceAdd]
  refine AWp_seq_k (fun K hK => ?_); apply s_region
  apply s_box; decide; exact (by simp only [go_sem]; try rfl); exact (by simp only [go_sem]; try rfl); intro q hq
  generalize hgenq : AHeap.put q _ H = M; obtain ⟨g1, hextq⟩ := gen_ex hgenq hq; have hE := hextq; clear hextq hgenq
  (apply s_q; decide; rfl; (simp only [go_sem, g1]; rfl); apply s_nil; simp only [AThen, ABlock]; refine hK _ _ ?_; clear hK K; (iterate 2 (refine AWp_seq_k (fun K hK => ?_))); apply s_region; apply s_q; decide; rfl; (simp only [go_sem, g1]; rfl); apply s_call; decide; (simp only [go_sem, g1]; rfl); (simp only [go_sem, g1]; rfl); apply hR; (iterate 2 (apply s_q; decide; rfl; (simp only [go_sem, g1]; rfl))); apply s_spec; decide; rfl; rfl; (simp only [go_sem, g1]; rfl); (simp only [go_sem, g1]; rfl); (simp only [go_sem, g1]; rfl); (simp only [go_sem, g1]; rfl); trivial; apply s_spec; decide; rfl; rfl; (simp only [go_sem, g1]; rfl); (simp only [go_sem, g1]; rfl); (simp only [go_sem, g1]; rfl); (simp only [go_sem, g1]; rfl); simp [condsOk]; apply s_pick; decide; (simp only [go_sem, g1]; rfl); (simp only [go_sem, g1]; rfl); (simp only [go_sem, g1]; rfl); (simp only [go_sem, g1]; rfl); (simp only [go_sem, g1]; rfl); (simp only [go_sem, g1]; rfl); trivial; trivial; simp [condsOk]; apply s_q; decide; rfl; (simp only [go_sem, g1]; rfl); (iterate 2 (apply s_spec; decide; rfl; rfl; (simp only [go_sem, g1]; rfl); (simp only [go_sem, g1]; rfl); (simp only [go_sem, g1]; rfl); (simp only [go_sem, g1]; rfl); trivial)); (iterate 3 (apply s_spec; decide; rfl; rfl; (simp only [go_sem, g1]; rfl); (simp only [go_sem, g1]; rfl); (simp only [go_sem, g1]; rfl); (simp only [go_sem, g1]; rfl); simp [condsOk])); apply s_pick; decide; (simp only [go_sem, g1]; rfl); (simp only [go_sem, g1]; rfl); (simp only [go_sem, g1]; rfl); (simp only [go_sem, g1]; rfl); (simp only [go_sem, g1]; rfl); (simp only [go_sem, g1]; rfl); trivial; trivial; simp [condsOk]; apply s_nil; simp only [AThen, ABlock]; refine hK _ _ ?_; clear hK K)
  refine cond_split (by simp only [go_sem]; try rfl) (fun hc => ?_) (fun hc => ?_)
  · have hno : lineA p i = [] := by
      rw [lineA]
      split
      · rename_i h1
        rw [lineP, if_neg]
        intro h2
        have h2 : 0 ≤ i ∧ i < p.events.length := by simpa [inR] using h2
        revert hc
        rw [h1]
        simp <;> omega
      · rfl
    (refine AWp_seq_k (fun K hK => ?_); apply s_region; apply s_q; decide; rfl; (simp only [go_sem]; rfl); apply s_nil; simp only [AThen, ABlock]; refine hK _ _ ?_; clear hK K; apply AWp_ret; simp only [AThen, ABlock]; apply end_ret; rfl; simp only [AFr.get, reduceIte, Nat.reduceEqDiff])
    rw [hno]
    exact ⟨M, hE, .inl ⟨rfl, rfl, rfl⟩⟩
  have hyes : rightB p = true ∧ 0 ≤ i ∧ i < p.events.length := by
    revert hc
    cases rightB p <;> simp
  obtain ⟨hrb, hi0, hi1⟩ := hyes
  have hr := right_true hrb
  have hfin := hB hrb (by simp [inR]; omega)
  have hF : ∀ (i : Nat), i < p.events.length → ∀ (H : AHeap) (K : AV → AHeap → Prop), K (.v (.int .i64 (leanI p i tPower))) H → ACall X 39 [.agg [.sl false (p.names.map strCells), .sl false (p.events.map Ev.cells), .sl false (p.prev.map rowCells), .sl false (p.auth.map rowCells), .sl false (p.denied.map bolCells)], .v (.int .i64 i), .s tPower] H K := fun i hi H K hK => leans_c p hw hr i hi tPower H K hK
  have hll : (lineL p i).length ≤ 1000 := by
    have := lineP_len (p := p) (i := i)
    rw [lineP, if_pos (by simp [inR]; omega)] at this
    omega
  (apply AWp_skip; simp only [AThen, ABlock]; refine hK _ _ ?_; clear hK K; refine AWp_seq_k (fun K hK => ?_); apply s_region; apply s_q; decide; rfl; (simp only [go_sem]; rfl); apply s_nil; simp only [AThen, ABlock]; refine hK _ _ ?_; clear hK K; refine AWp_seq_k (fun K hK => ?_); apply AWp_block)
  refine AWp_loop_s (σ := Nat × Int × AV × AHeap) [1, 2, 5] (fun s => [.v (.int .i64 s.2.1), ptrTo q, s.2.2.1]) (fun s => s.2.2.2) (fun s => (s.2.1 + 1).toNat)
    (fun s => (lineL p i).drop s.1 = lineL p s.2.1 ∧ s.1 ≤ (lineL p i).length ∧ -1 ≤ s.2.1 ∧ s.2.1 < p.events.length ∧
      s.2.2.2.get q = some (.box 35 [.sl false (p.names.map strCells), .sl false (p.events.map Ev.cells), .sl false (p.prev.map rowCells), .sl false (p.auth.map rowCells), .sl false (p.denied.map bolCells)]) ∧ Ext H s.2.2.2 ∧ RowAt 3 1 H s.2.2.2 (((lineL p i).take s.1).map intCells) s.2.2.1)
    (0, i, .sl true [], M) ⟨rfl, Nat.zero_le _, by simp only; omega, hi1, g1, hE, RowAt.nil _ _ _ _⟩ rfl rfl (fun s hs => ?_)
  obtain ⟨n, cur, a, L⟩ := s
  obtain ⟨hdr, hnl, hm1, hlt, gq, hEL, hRL⟩ := hs
  clear g1 hE
  simp only [List.zip_cons_cons, List.zip_nil_right] at hdr hnl hm1 hlt gq hEL hRL ⊢
  rcases Int.lt_or_le cur 0 with hneg | hpos
  · obtain rfl : cur = -1 := by omega
    rw [line_neg] at hdr
    have hfin2 : n = (lineL p i).length := by have := List.drop_eq_nil_iff.1 hdr; omega
    subst hfin2
    rw [List.take_length] at hRL
    ((iterate 2 (refine AWp_seq_k (fun K hK => ?_))); apply s_region; (iterate 2 (apply s_q; decide; rfl; (simp only [go_sem]; rfl))); apply s_nil; simp only [AThen, ABlock]; refine hK _ _ ?_; clear hK K)
    refine cond_split (by simp only [go_sem]; try rfl) (fun he => ?_) (fun he => ?_)
    · cases he
    (apply AWp_exit; simp only [AThen, ABlock, reduceIte, Nat.reduceEqDiff]; clear hK K; refine hK _ _ ?_; clear hK K; refine AWp_seq_k (fun K hK => ?_); apply s_region; (iterate 2 (apply s_q; decide; rfl; (simp only [go_sem]; rfl))); apply s_nil; simp only [AThen, ABlock]; refine hK _ _ ?_; clear hK K; apply AWp_ret)
    rw [hfin]
    obtain ⟨L0, h3, h4⟩ := hRL.toGr hEL
    exact ⟨L0, h3, h4⟩
  · obtain ⟨m, rfl⟩ : ∃ i : Nat, cur = i := ⟨cur.toNat, by omega⟩
    rw [line_step hr] at hdr
    have hx : (lineL p i)[n]? = some (m : Int) := by
      have : ((lineL p i).drop n)[0]? = some (m : Int) := by rw [hdr]; rfl
      rwa [List.getElem?_drop, Nat.add_zero] at this
    have hnl2 := (List.getElem?_eq_some_iff.1 hx).1
    ((iterate 2 (refine AWp_seq_k (fun K hK => ?_))); apply s_region; (iterate 2 (apply s_q; decide; rfl; (simp only [go_sem]; rfl))); apply s_nil; simp only [AThen, ABlock]; refine hK _ _ ?_; clear hK K)
    refine cond_split (by simp only [go_sem]; try rfl) (fun he => ?_) (fun he => ?_)
    rotate_left
    · simp at he <;> omega
    (apply AWp_skip; simp only [AThen, ABlock]; refine hK _ _ ?_; clear hK K; apply AWp_block; refine AWp_seq_k (fun K hK => ?_); apply s_region; (iterate 2 (apply s_q; decide; rfl; (simp only [go_sem]; rfl))); apply s_lit; decide; exact el_38; (simp only [go_sem]; rfl); (simp only [go_sem]; rfl); decide; apply s_append; decide; (simp only [go_sem]; rfl); (simp only [go_sem]; rfl); apply AApp_at el_38 hEL hRL (l := (lineL p i).take n) (m := [(m : Int)]) (g := intCells) rfl rfl tk_38 int_one (by simp; omega) (by simp; omega); intro a2 L4 b1 b2 b3; apply s_q; decide; rfl; (simp only [go_sem]; rfl); apply s_nil; simp only [AThen, ABlock]; refine hK _ _ ?_; clear hK K; apply s_region)
    have gq4 := b3 _ _ gq (fun _ _ _ h => by cases h)
    rw [← take_succ hx] at b1
    ((iterate 2 (apply s_q; decide; rfl; (simp only [go_sem, gq4]; rfl))); apply s_call; decide; (simp only [go_sem, gq4]; rfl); (simp only [go_sem, gq4]; rfl); apply hF m (by omega); apply s_q; decide; rfl; (simp only [go_sem, gq4]; rfl); apply s_nil; simp only [AThen, ABlock])
    refine ⟨(n + 1, leanI p m tPower, a2, L4), ?_, ⟨?_, by simp only; omega, ?_, ?_, gq4, b2, b1⟩, by trivial, by trivial⟩
    · simp only
      rcases leanI_lt hr (i := m) (kind := tPower) with e | ⟨k, e, h3, _⟩ <;> rw [e] <;> omega
    · simp only
      rw [← List.drop_drop, hdr]; rfl
    · simp only
      rcases leanI_lt hr (i := m) (kind := tPower) with e | ⟨k, e, h3, _⟩ <;> rw [e] <;> omega
    · simp only
      rcases leanI_lt hr (i := m) (kind := tPower) with e | ⟨k, e, h3, _⟩ <;> rw [e] <;> omega
theorem atI_mem {n : Int} {l : List Int} : 0 ≤ atI n l ↔ n ∈ l := by
  rw [atI]
  cases h : l.findIdx? (fun x => decide (x = n)) with
  | none =>
    rw [List.findIdx?_eq_none_iff] at h
    simp only
    constructor
    · intro h; omega
    · intro hm; have := h n hm; simp at this
  | some i =>
    rw [List.findIdx?_eq_some_iff_getElem] at h
    obtain ⟨hi, h1, _⟩ := h
    have h1 : l[i] = n := by simpa using h1
    simp only
    exact ⟨fun _ => h1 ▸ List.getElem_mem hi, fun _ => by omega⟩
def nearA (p : Pa) (line : List Int) (i : Int) : Int := match (lineA p i).find? (fun k => decide (k ∈ line)) with | some k => atI k line | none => line.length
theorem lineA_len {p : Pa} {i : Int} : (lineA p i).length ≤ p.events.length := by
  rw [lineA]; split
  · exact lineP_len
  · simp
set_option maxHeartbeats 4000000 in
theorem rnear_c (p : Pa) (hw : p.Wide) (hn : p.events.length ≤ 1000) (t : Bool) (line : List Int) (hl : line.length ≤ 1000) (i : Int) (H : AHeap) (Kc : AV → AHeap → Prop) (h : Kc (.v (.int .i64 (nearA p line i))) H) : ACall X 24 [.agg p.cells, .sl t (line.map intCells), .v (.int .i64 i)] H Kc := by
  refine ACall.drop ?_
  have hL : ∀ (H : AHeap) (K : AV → AHeap → Prop), K (.sl false ((lineA p i).map intCells)) H → ACall X 22 [.agg [.sl false (p.names.map strCells), .sl false (p.events.map Ev.cells), .sl false (p.prev.map rowCells), .sl false (p.auth.map rowCells), .sl false (p.denied.map bolCells)], .v (.int .i64 i)] H K := fun H K hK => rline_c p hw hn i H K hK
  have hll := lineA_len (p := p) (i := i)
  rw [nearA] at h
  rw [Pa.cells]
  refine ACall_intro Tryz.func24 rfl (by kernel_rfl) (by rw [Tryz.ntmps24]; simp) ?_; rw [Tryz.ntmps24]; simp only [frame0, Nat.reduceAdd]
  refine AWp_seq_k (fun K hK => ?_); apply s_region
  apply s_box; decide; exact (by simp only [go_sem]; try rfl); exact (by simp only [go_sem]; try rfl); intro q hq
  generalize hgenq : AHeap.put q _ H = M; obtain ⟨g1, hextq⟩ := gen_ex hgenq hq; have hE := hextq; clear hextq hgenq
  (apply s_q; decide; rfl; (simp only [go_sem, g1]; rfl); apply s_nil; simp only [AThen, ABlock]; refine hK _ _ ?_; clear hK K; refine AWp_seq_k (fun K hK => ?_); apply s_region; (iterate 2 (apply s_q; decide; rfl; (simp only [go_sem, g1]; rfl))); apply s_call; decide; (simp only [go_sem, g1]; rfl); (simp only [go_sem, g1]; rfl); apply hL; apply s_q; decide; rfl; (simp only [go_sem, g1]; rfl); apply s_nil; simp only [AThen, ABlock]; refine hK _ _ ?_; clear hK K; (iterate 2 (refine AWp_seq_k (fun K hK => ?_))); apply s_region; apply s_q; decide; rfl; (simp only [go_sem, g1]; rfl); apply s_nil; simp only [AThen, ABlock]; refine hK _ _ ?_; clear hK K; apply AWp_block)
  generalize lineA p i = l at h hll ⊢
  refine AWp_loop_s (σ := Nat) [1, 7, 8] (fun k => [.sl t (line.map intCells), .sl false (l.map intCells), .v (.int .i64 (k : Int))]) (fun _ => M) (fun k => l.length - k) (fun k => k ≤ l.length ∧ ∀ x ∈ l.take k, decide (x ∈ line) = false) 0 ⟨Nat.zero_le _, by simp⟩ rfl rfl (fun k hk => ?_)
  simp only [List.zip_cons_cons, List.zip_nil_right]
  ((iterate 2 (refine AWp_seq_k (fun K hK => ?_))); apply s_region; (iterate 4 (apply s_q; decide; rfl; (simp only [go_sem]; rfl))); apply s_nil; simp only [AThen, ABlock]; refine hK _ _ ?_; clear hK K)
  refine cond_split (by simp only [go_sem]; try rfl) (fun hd => ?_) (fun hd => ?_)
  · have hkl : k < l.length := by simpa using hd
    obtain ⟨x, hx⟩ := gete hkl
    have hgx := int_at hx
    (apply AWp_skip; simp only [AThen, ABlock]; refine hK _ _ ?_; clear hK K; refine AWp_seq_k (fun K hK => ?_); apply AWp_block; refine AWp_seq_k (fun K hK => ?_); apply s_region; apply s_q; decide; rfl; (simp only [go_sem]; rfl); apply s_nil; simp only [AThen, ABlock]; refine hK _ _ ?_; clear hK K; apply AWp_block)
    refine AWp_loop_s (σ := Nat) [1, 7, 8, 9] (fun n => [.sl t (line.map intCells), .sl false (l.map intCells), .v (.int .i64 (k : Int)), .v (.int .i64 (n : Int))]) (fun _ => M) (fun n => line.length - n) (fun n => n ≤ line.length ∧ ∀ y ∈ line.take n, y ≠ x) 0 ⟨Nat.zero_le _, by simp⟩ rfl rfl (fun n hn2 => ?_)
    simp only [List.zip_cons_cons, List.zip_nil_right]
    ((iterate 2 (refine AWp_seq_k (fun K hK => ?_))); apply s_region; (iterate 4 (apply s_q; decide; rfl; (simp only [go_sem]; rfl))); apply s_nil; simp only [AThen, ABlock]; refine hK _ _ ?_; clear hK K)
    refine cond_split (by simp only [go_sem]; try rfl) (fun he => ?_) (fun he => ?_)
    · have hnl : n < line.length := by simpa using he
      obtain ⟨y, hy⟩ := gete hnl
      have hgy := int_at hy
      (apply AWp_skip; simp only [AThen, ABlock]; refine hK _ _ ?_; clear hK K; refine AWp_seq_k (fun K hK => ?_); apply AWp_block; refine AWp_seq_k (fun K hK => ?_))
      apply AWp_drawA [0, 1, 2, 3, 4, 5, 6, 7, 8] [] 0 (by exact mixed); kernel_rfl; (simp only [go_sem]; rfl); (simp only [go_sem]; rfl)
      ((iterate 9 (apply e_q; decide; (simp only [go_sem, hgx, hgy]; rfl))); apply e_nil; apply t_nil; simp only [AThen, ABlock]; refine hK _ _ ?_; clear hK K)
      refine cond_split (by simp only [go_sem]; try rfl) (fun hz => ?_) (fun hz => ?_)
      · have hz : y = x := by simpa using hz
        rw [find_first hx hk.2 (by simp only [decide_eq_true_eq]; rw [← hz]; exact List.mem_of_getElem? hy)] at h
        (refine AWp_seq_k (fun K hK => ?_); apply s_region; (iterate 2 (apply s_q; decide; rfl; (simp only [go_sem]; rfl))); apply s_nil; simp only [AThen, ABlock]; refine hK _ _ ?_; clear hK K; apply AWp_ret; simp only [AThen, ABlock]; apply end_ret; rfl; simp only [AFr.get, reduceIte, Nat.reduceEqDiff])
        have e1 := atI_take hy hn2.2 hz
        exact ⟨H, hE, finI h e1.symm⟩
      · have hz : y ≠ x := by simpa using hz
        (apply AWp_skip; simp only [AThen, ABlock]; refine hK _ _ ?_; clear hK K; apply s_region; (iterate 3 (apply s_q; decide; rfl; (simp only [go_sem]; rfl))); apply s_nil; simp only [AThen, ABlock])
        refine ⟨n + 1, by omega, ⟨by omega, fun w hw3 => ?_⟩, ?_, by trivial⟩
        · rcases take_mem_succ hy hw3 with h1 | rfl
          · exact hn2.2 w h1
          · exact hz
        · simp only [getAll, List.map_cons, List.map_nil, AFr.get, reduceIte, Nat.reduceEqDiff]
          rw [wrapS hnl (by omega)]; try rfl
    · have hge : line.length ≤ n := by simpa using he
      have hnot : decide (x ∈ line) = false := by
        rw [decide_eq_false_iff_not]
        intro hm
        exact hn2.2 x (by rw [List.take_of_length_le hge]; exact hm) rfl
      (apply AWp_exit; simp only [AThen, ABlock, reduceIte, Nat.reduceEqDiff]; clear hK K; refine hK _ _ ?_; clear hK K; apply s_region; (iterate 3 (apply s_q; decide; rfl; (simp only [go_sem]; rfl))); apply s_nil; simp only [AThen, ABlock])
      refine ⟨k + 1, by omega, ⟨by omega, fun w hw3 => ?_⟩, ?_, by trivial⟩
      · rcases take_mem_succ hx hw3 with h1 | rfl
        · exact hk.2 w h1
        · exact hnot
      · simp only [getAll, List.map_cons, List.map_nil, AFr.get, reduceIte, Nat.reduceEqDiff]
        rw [wrapS hkl (by omega)]; try rfl
  · have hge : l.length ≤ k := by simpa using hd
    have hno := hk.2
    rw [List.take_of_length_le hge] at hno
    rw [find_none hno] at h
    (apply AWp_exit; simp only [AThen, ABlock, reduceIte, Nat.reduceEqDiff]; clear hK K; refine hK _ _ ?_; clear hK K; refine AWp_seq_k (fun K hK => ?_); apply s_region; (iterate 3 (apply s_q; decide; rfl; (simp only [go_sem]; rfl))); apply s_nil; simp only [AThen, ABlock]; refine hK _ _ ?_; clear hK K; apply AWp_ret)
    exact ⟨H, hE, h⟩
set_option maxHeartbeats 4000000 in
theorem near_c (p : Pa) (hw : p.Wide) (hn : p.events.length ≤ 1000) (t : Bool) (line : List Int) (hl : line.length ≤ 1000) (i : Int) (H : AHeap) (Kc : AV → AHeap → Prop) (h : Kc (.v (.int .i64 (nearA p line i))) H) : ACall X 23 [.agg p.cells, .sl t (line.map intCells), .v (.int .i64 i)] H Kc := by
  refine ACall.drop ?_
  have hR : ∀ (H : AHeap) (K : AV → AHeap → Prop), K (.v (.bool (rightB p))) H → ACall X 25 [.agg [.sl false (p.names.map strCells), .sl false (p.events.map Ev.cells), .sl false (p.prev.map rowCells), .sl false (p.auth.map rowCells), .sl false (p.denied.map bolCells)]] H K := fun H K hK => right_c p hw H K hK
  have hBk : ∀ (H : AHeap) (K : AV → AHeap → Prop), (∀ q c, H.get q = none → (H.put q (paBox p)).get c = none → K (.fn (.func 93) [] [ptrTo q, ptrTo c]) ((H.put q (paBox p)).put c (ibox i))) → ACall X 57 [.agg [.sl false (p.names.map strCells), .sl false (p.events.map Ev.cells), .sl false (p.prev.map rowCells), .sl false (p.auth.map rowCells), .sl false (p.denied.map bolCells)], .v (.int .i64 i)] H K := fun H K hK => back_c p i H K hK
  rw [nearA] at h
  rw [Pa.cells]
  refine ACall_intro Tryz.func23 rfl (by kernel_rfl) (by rw [Tryz.ntmps23]; simp) ?_; rw [Tryz.ntmps23]; simp only [frame0, Nat.reduceAdd]
  refine AWp_seq_k (fun K hK => ?_); apply s_region
  apply s_box; decide; exact (by simp only [go_sem]; try rfl); exact (by simp only [go_sem]; try rfl); intro q hq
  generalize hgenq : AHeap.put q _ H = M; obtain ⟨g1, hextq⟩ := gen_ex hgenq hq; have hE := hextq; clear hextq hgenq
  apply s_box; decide; exact (by simp only [go_sem]; try rfl); exact (by simp only [go_sem]; try rfl); intro ln hln
  generalize hgenq : AHeap.put ln _ M = M1; obtain ⟨gl, hextq⟩ := gen_ex hgenq hln; have g1 := hextq _ _ g1; have hE := Ext.trans hE hextq; clear hextq hgenq
  apply s_alloc; decide; exact zc_3; intro rs hrs
  generalize hgenq : AHeap.put rs _ M1 = M2; obtain ⟨gr, hextq⟩ := gen_ex hgenq hrs; have g1 := hextq _ _ g1; have gl := hextq _ _ gl; have hE := Ext.trans hE hextq; clear hextq hgenq
  apply s_nil; simp only [AThen, ABlock]; refine hK _ _ ?_; clear hK K
  ((iterate 2 (refine AWp_seq_k (fun K hK => ?_))); apply s_region; apply s_q; decide; rfl; (simp only [go_sem, g1]; rfl); apply s_call; decide; (simp only [go_sem, g1]; rfl); (simp only [go_sem, g1]; rfl); apply hR; apply s_nil; simp only [AThen, ABlock]; refine hK _ _ ?_; clear hK K)
  refine cond_split (by simp only [go_sem]; try rfl) (fun hc => ?_) (fun hc => ?_)
  rotate_left
  · have hc : rightB p = false := by simpa using hc
    have hno : lineA p i = [] := by rw [lineA, if_neg (by rw [hc]; decide)]
    rw [hno] at h
    (apply AWp_skip; simp only [AThen, ABlock]; refine hK _ _ ?_; clear hK K; refine AWp_seq_k (fun K hK => ?_); apply s_region; (iterate 2 (apply s_q; decide; rfl; (simp only [go_sem, gl, gr]; rfl))); apply s_store; (simp only [go_sem, gl, gr]; rfl); (simp only [go_sem, gl, gr]; rfl); (simp only [go_sem, gl, gr]; rfl); apply s_nil; simp only [AThen, ABlock]; refine hK _ _ ?_; clear hK K; apply AWp_ret)
    try simp only [AThen, ABlock]
    refine end_ret (by show resAV X.P _ _ [.cell 6 3] = _; simp only [go_sem]; try rfl) ⟨H, hE.over (none_of_ext (by assumption) hrs), h⟩
  have hc : rightB p = true := by simpa using hc
  have hr := right_true hc
  have hfin : lineA p i = lineP p i := by rw [lineA, if_pos hc]
  rw [hfin] at h
  have hHr : H.get rs = none := none_of_ext (by assumption) hrs
  have hrl : rs ≠ ln := by rintro rfl; rw [gr] at gl; cases gl
  (refine AWp_seq_k (fun K hK => ?_); apply s_region; (iterate 2 (apply s_q; decide; rfl; (simp only [go_sem, g1]; rfl))); apply s_call; decide; (simp only [go_sem, g1]; rfl); (simp only [go_sem, g1]; rfl); apply hBk; intro b c hb hc2; apply s_nil; simp only [AThen, ABlock]; refine hK _ _ ?_; clear hK K; apply AWp_block)
  have hcb : c ≠ b := by rintro rfl; rw [AHeap.get_put_same] at hc2; cases hc2
  have k1 := get_fresh (AHeap.get_put_same b (paBox p) M2) hc2 (x := ibox i)
  have k2 := AHeap.get_put_same c (ibox i) (M2.put b (paBox p))
  have k3 := (hE.put hb (ob := paBox p)).put hc2 (ob := ibox i)
  have hHb : H.get b = none := none_of_ext hE hb
  have hHc : H.get c = none := none_of_ext (hE.put hb (ob := paBox p)) hc2
  have kl := get_fresh (get_fresh gl hb (x := paBox p)) hc2 (x := ibox i)
  have kr := get_fresh (get_fresh gr hb (x := paBox p)) hc2 (x := ibox i)
  have hcr : c ≠ rs := by
    rintro rfl
    rw [get_fresh gr hb (x := paBox p)] at hc2; cases hc2
  generalize (M2.put b (paBox p)).put c (ibox i) = M3 at k1 k2 k3 kl kr ⊢
  clear g1 gl gr
  skip
  refine AWp_cut [4, 6, 13] (vs := [ptrTo ln, ptrTo rs, .fn (.func 93) [] [ptrTo b, ptrTo c]]) rfl ?_
  simp only [List.zip_cons_cons, List.zip_nil_right]
  apply AWp_rangeFunc; exact (by simp only [go_sem]; try rfl); intro y hy
  generalize hlo : AObj.loop 23 _ _ _ _ LoopState.ready none = lo
  have y1 := get_ne_fresh kl hy
  have y2 := get_ne_fresh k1 hy
  have y3 := get_ne_fresh k2 hy
  have y4 := get_ne_fresh kr hy
  have hHy : H.get y = none := none_of_ext k3 hy
  have hcl : c ≠ ln := by rintro rfl; rw [k2] at kl; cases kl
  have hbr : b ≠ rs := by rintro rfl; rw [k1] at kr; cases kr
  refine iterB_c p hw hr i y b c (fun n L => L.get y = some lo ∧ L.get b = some (paBox p) ∧ L.get ln = some (.box 38 [.sl t (line.map intCells)]) ∧ L.get rs = some (ibox 0) ∧ Ext H L ∧ ∀ x ∈ (lineP p i).take n, decide (x ∈ line) = false) _ (fun n L h => h.2.1) ?_ ?_ ?_ _ ?_ (get_fresh k2 hy)
  · rintro n L v ⟨g1, g2, g3, g4, g5, g6⟩
    exact ⟨by rw [AHeap.get_put, if_neg (Ne.symm y3)]; exact g1, by rw [AHeap.get_put, if_neg (Ne.symm hcb)]; exact g2, by rw [AHeap.get_put, if_neg (Ne.symm hcl)]; exact g3, by rw [AHeap.get_put, if_neg (Ne.symm hcr)]; exact g4, g5.over hHc, g6⟩
  · rintro n x L hx ⟨g1, g2, g3, g4, g5, g6⟩ gc
    rw [← hlo] at g1
    apply AYield_intro g1 rfl; decide
    simp only [putAll, List.toList_toArray]
    (apply s_region; apply s_q; (dsimp only; decide); rfl; (simp only [go_sem]; rfl); apply s_nil; simp only [AThen, ABlock])
    refine ⟨g1, ?_⟩
    generalize hlb : AObj.loop 23 _ _ _ _ LoopState.busy none = lb
    have c1 := AHeap.get_put_same y lb L
    have c2 : (L.put y lb).get b = some (paBox p) := by rw [AHeap.get_put, if_neg y2]; exact g2
    have c3 : (L.put y lb).get ln = some (.box 38 [.sl t (line.map intCells)]) := by rw [AHeap.get_put, if_neg y1]; exact g3
    have c4 : (L.put y lb).get rs = some (ibox 0) := by rw [AHeap.get_put, if_neg y4]; exact g4
    have c5 : (L.put y lb).get c = some (ibox x) := by rw [AHeap.get_put, if_neg y3]; exact gc
    have c6 := g5.over (o := lb) hHy
    generalize L.put y lb = N at c1 c2 c3 c4 c5 c6 ⊢
    (apply AWp_block; refine AWp_seq_k (fun K hK => ?_); apply s_region; (iterate 2 (apply s_q; (dsimp only; decide); rfl; (simp only [go_sem, c3]; rfl))); apply s_call; (dsimp only; decide); (simp only [go_sem, c3]; rfl); (simp only [go_sem, c3]; rfl); apply index_c t line x (by omega); apply s_q; (dsimp only; decide); rfl; (simp only [go_sem, c3]; rfl); apply s_nil; simp only [AThen, ABlock]; refine hK _ _ ?_; clear hK K; refine AWp_seq_k (fun K hK => ?_); apply s_region; (iterate 2 (apply s_q; (dsimp only; decide); rfl; (simp only [go_sem, c3]; rfl))); apply s_nil; simp only [AThen, ABlock]; refine hK _ _ ?_; clear hK K)
    refine cond_split (by simp only [go_sem]; try rfl) (fun hz => ?_) (fun hz => ?_)
    · have hm : x ∈ line := atI_mem.1 (by simpa using hz)
      rw [find_first hx g6 (by simpa using hm)] at h
      (refine AWp_seq_k (fun K hK => ?_); apply s_region; apply s_q; (dsimp only; decide); rfl; (simp only [go_sem, c4]; rfl); apply s_store; (simp only [go_sem, c4]; rfl); (simp only [go_sem, c4]; rfl); (simp only [go_sem, c4]; rfl); apply s_nil; simp only [AThen, ABlock]; refine hK _ _ ?_; clear hK K; apply AWp_ret)
      simp only [ABlock, ARound]
      refine ⟨by rw [hlb, AHeap.get_put, if_neg (Ne.symm y4)]; exact c1, .inr ⟨by trivial, _, .done, some .ret, AHeap.get_put_same _ _ _, by simp, ?_⟩⟩
      have c7 : ∀ o, AHeap.get rs (AHeap.del y (AHeap.put y o (AHeap.put rs (ibox (atI x line)) N))) = some (ibox (atI x line)) := fun o => by
        rw [AHeap.get_del, if_neg y4, AHeap.get_put, if_neg y4, AHeap.get_put_same]
      (apply AWp_ret)
      try simp only [AThen, ABlock]
      refine end_ret (av := .v (.int .i64 (atI x line))) (by show resAV X.P _ _ [.cell 6 3] = _; simp only [go_sem, c7]; try rfl) ⟨H, ((c6.over hHr).over hHy).del hHy, h⟩
    · have hm : ¬ x ∈ line := fun h => by have := atI_mem.2 h; simp at hz; omega
      (apply AWp_skip; simp only [AThen, ABlock])
      simp only [ABlock, ARound]
      refine ⟨by rw [hlb]; exact c1, .inl ⟨by trivial, ⟨?_, ?_, ?_, ?_, ?_, ?_⟩, ?_⟩⟩
      · rw [AHeap.get_put_same, hlo]
      · rw [AHeap.get_put, if_neg y2]; exact c2
      · rw [AHeap.get_put, if_neg y1]; exact c3
      · rw [AHeap.get_put, if_neg y4]; exact c4
      · exact c6.over hHy
      · intro w hw3
        rcases take_mem_succ hx hw3 with h1 | rfl
        · exact g6 w h1
        · simpa using hm
      · rw [AHeap.get_put, if_neg y3]; exact c5
  · rintro L ⟨g1, g2, g3, g4, g5, g6⟩
    rw [List.take_length] at g6
    rw [find_none g6] at h
    refine ⟨_, .ready, none, by rw [g1, ← hlo], by simp, ?_⟩
    simp only [ABlock, AThen]
    have q1 : (AHeap.del y L).get ln = some (.box 38 [.sl t (line.map intCells)]) := by rw [AHeap.get_del, if_neg y1]; exact g3
    have q2 : (AHeap.del y L).get rs = some (ibox 0) := by rw [AHeap.get_del, if_neg y4]; exact g4
    have q3 := g5.del hHy
    refine hK _ _ ?_
    (refine AWp_seq_k (fun K hK => ?_); apply s_region; (iterate 2 (apply s_q; decide; rfl; (simp only [go_sem, q1, q2]; rfl))); apply s_store; (simp only [go_sem, q1, q2]; rfl); (simp only [go_sem, q1, q2]; rfl); (simp only [go_sem, q1, q2]; rfl); apply s_nil; simp only [AThen, ABlock]; refine hK _ _ ?_; clear hK K; apply AWp_ret)
    try simp only [AThen, ABlock]
    refine end_ret (by show resAV X.P _ _ [.cell 6 3] = _; simp only [go_sem]; try rfl) ⟨H, q3.over hHr, h⟩
  · exact ⟨AHeap.get_put_same _ _ _, get_fresh k1 hy, get_fresh kl hy, get_fresh kr hy, k3.put hy, by simp⟩
end Go.Proofs.YtcpfgjfiacfmoaaGreatDoor

namespace Go.Proofs
open Go.Shelf
def Tryz.lays189_ren : Go.Shelf.Ren := ⟨fun | 189 => 61 | 125 => 95 | 257 => 94 | 128 => 121 | 129 => 122 | 294 => 113 | 295 => 114 | 296 => 115 | 297 => 116 | 298 => 117 | 299 => 118 | 216 => 84 | 300 => 119 | 301 => 120 | 328 => 145 | 329 => 146 | 330 => 147 | 331 => 148 | 332 => 149 | 215 => 97 | 343 => 162 | n => n, fun | 28 => 38 | 3 => 3 | 46 => 105 | 0 => 0 | 51 => 132 | 53 => 134 | 4 => 4 | 183 => 126 | 182 => 125 | 131 => 74 | 5 => 5 | 9 => 9 | 218 => 146 | 222 => 150 | 228 => 160 | 229 => 161 | n => n, fun | n => n⟩
theorem Tryz.lays189 : Go.Proofs.Lays.n189 Tryz.prog Tryz.lays189_ren := {
  mixed := by kernel_rfl
  f125 := Tryz.func95.trans (congrArg some (by kernel_rfl))
  f128 := Tryz.func121.trans (congrArg some (by kernel_rfl))
  f129 := Tryz.func122.trans (congrArg some (by kernel_rfl))
  f189 := Tryz.func61.trans (congrArg some (by kernel_rfl))
  f215 := Tryz.func97.trans (congrArg some (by kernel_rfl))
  f216 := Tryz.func84.trans (congrArg some (by kernel_rfl))
  f257 := Tryz.func94.trans (congrArg some (by kernel_rfl))
  f294 := Tryz.func113.trans (congrArg some (by kernel_rfl))
  f295 := Tryz.func114.trans (congrArg some (by kernel_rfl))
  f296 := Tryz.func115.trans (congrArg some (by kernel_rfl))
  f297 := Tryz.func116.trans (congrArg some (by kernel_rfl))
  f298 := Tryz.func117.trans (congrArg some (by kernel_rfl))
  f299 := Tryz.func118.trans (congrArg some (by kernel_rfl))
  f300 := Tryz.func119.trans (congrArg some (by kernel_rfl))
  f301 := Tryz.func120.trans (congrArg some (by kernel_rfl))
  f328 := Tryz.func145.trans (congrArg some (by kernel_rfl))
  f329 := Tryz.func146.trans (congrArg some (by kernel_rfl))
  f330 := Tryz.func147.trans (congrArg some (by kernel_rfl))
  f331 := Tryz.func148.trans (congrArg some (by kernel_rfl))
  f332 := Tryz.func149.trans (congrArg some (by kernel_rfl))
  f343 := Tryz.func162.trans (congrArg some (by kernel_rfl))
  t0 := Tryz.underlying0
  a0 := Tryz.isAgg0
  z0 := Tryz.sizeOf0
  v0 := Tryz.zeroValue0
  t3 := Tryz.underlying3
  a3 := Tryz.isAgg3
  z3 := Tryz.sizeOf3
  v3 := Tryz.zeroValue3
  t4 := Tryz.underlying4
  a4 := Tryz.isAgg4
  z4 := Tryz.sizeOf4
  v4 := Tryz.zeroValue4
  t5 := Tryz.underlying5
  a5 := Tryz.isAgg5
  z5 := Tryz.sizeOf5
  v5 := Tryz.zeroValue5
  t9 := Tryz.underlying9
  a9 := Tryz.isAgg9
  z9 := Tryz.sizeOf9
  v9 := Tryz.zeroValue9
  t28 := Tryz.underlying38
  a28 := Tryz.isAgg38
  z28 := Tryz.sizeOf38
  v28 := Tryz.zeroValue38
  t46 := Tryz.underlying105
  a46 := Tryz.isAgg105
  z46 := Tryz.sizeOf105
  v46 := Tryz.zeroValue105
  t51 := Tryz.underlying132
  a51 := Tryz.isAgg132
  z51 := Tryz.sizeOf132
  v51 := Tryz.zeroValue132
  t53 := Tryz.underlying134
  a53 := Tryz.isAgg134
  z53 := Tryz.sizeOf134
  v53 := Tryz.zeroValue134
  t131 := Tryz.underlying74
  a131 := Tryz.isAgg74
  z131 := Tryz.sizeOf74
  v131 := Tryz.zeroValue74
  t182 := Tryz.underlying125
  a182 := Tryz.isAgg125
  z182 := Tryz.sizeOf125
  v182 := Tryz.zeroValue125
  t183 := Tryz.underlying126
  a183 := Tryz.isAgg126
  z183 := Tryz.sizeOf126
  v183 := Tryz.zeroValue126
  t218 := Tryz.underlying146
  a218 := Tryz.isAgg146
  z218 := Tryz.sizeOf146
  v218 := Tryz.zeroValue146
  t222 := Tryz.underlying150
  a222 := Tryz.isAgg150
  z222 := Tryz.sizeOf150
  v222 := Tryz.zeroValue150
  t228 := Tryz.underlying160
  a228 := Tryz.isAgg160
  z228 := Tryz.sizeOf160
  v228 := Tryz.zeroValue160
  t229 := Tryz.underlying161
  a229 := Tryz.isAgg161
  z229 := Tryz.sizeOf161
  v229 := Tryz.zeroValue161 }
def Tryz.laysNm220_ren : Go.Shelf.Ren := ⟨fun | 20 => 78 | n => n, fun | 22 => 38 | 3 => 3 | 4 => 4 | 0 => 0 | n => n, fun | n => n⟩
theorem Tryz.laysNm220 : Go.Proofs.Lays2.n20 Tryz.prog Tryz.laysNm220_ren := {
  mixed := by kernel_rfl
  f20 := Tryz.func78.trans (congrArg some (by kernel_rfl))
  t0 := Tryz.underlying0
  a0 := Tryz.isAgg0
  z0 := Tryz.sizeOf0
  v0 := Tryz.zeroValue0
  t3 := Tryz.underlying3
  a3 := Tryz.isAgg3
  z3 := Tryz.sizeOf3
  v3 := Tryz.zeroValue3
  t4 := Tryz.underlying4
  a4 := Tryz.isAgg4
  z4 := Tryz.sizeOf4
  v4 := Tryz.zeroValue4
  t22 := Tryz.underlying38
  a22 := Tryz.isAgg38
  z22 := Tryz.sizeOf38
  v22 := Tryz.zeroValue38
  i3 := by kernel_rfl }
def Tryz.laysNm221_ren : Go.Shelf.Ren := ⟨fun | 21 => 89 | 27 => 111 | 28 => 112 | 35 => 144 | 39 => 161 | n => n, fun | 22 => 38 | 3 => 3 | 4 => 4 | 0 => 0 | n => n, fun | n => n⟩
theorem Tryz.laysNm221 : Go.Proofs.Lays2.n21 Tryz.prog Tryz.laysNm221_ren := {
  mixed := by kernel_rfl
  f21 := Tryz.func89.trans (congrArg some (by kernel_rfl))
  f27 := Tryz.func111.trans (congrArg some (by kernel_rfl))
  f28 := Tryz.func112.trans (congrArg some (by kernel_rfl))
  f35 := Tryz.func144.trans (congrArg some (by kernel_rfl))
  f39 := Tryz.func161.trans (congrArg some (by kernel_rfl))
  t0 := Tryz.underlying0
  a0 := Tryz.isAgg0
  z0 := Tryz.sizeOf0
  v0 := Tryz.zeroValue0
  t3 := Tryz.underlying3
  a3 := Tryz.isAgg3
  z3 := Tryz.sizeOf3
  v3 := Tryz.zeroValue3
  t4 := Tryz.underlying4
  a4 := Tryz.isAgg4
  z4 := Tryz.sizeOf4
  v4 := Tryz.zeroValue4
  t22 := Tryz.underlying38
  a22 := Tryz.isAgg38
  z22 := Tryz.sizeOf38
  v22 := Tryz.zeroValue38
  i3 := by kernel_rfl }
namespace YtcpfgjfiacfmoaaGreatDoor
open Go.AL
def sortZ (l : List Int) : List Int := l.mergeSort fun x y => decide (x ≤ y)
theorem sortsI61 : SortsOrd X.P 61 (Value.int .i64) sortZ :=
  ⟨fun p cap w => Any.slices_Sort_int_none Tryz.lays189 p cap w, fun blk cap ss w hH hblk hsz => Any.slices_Sort_int Tryz.lays189 blk 0 cap ss w hH hblk hsz⟩
theorem inserts89 : InsertsAt X.P 89 3 8 (.int .i64 0) where
  shift := fun b off n c i vb voff vc cs x w hi hroom hc63 hvb hcl hcs hsp hfz hx h1c h1x tA tB kA kB hsa hsb hkB hfa hfe =>
    Any2.slices_Insert_int_shift Tryz.laysNm221 b off n c i vb voff 1 vc cs [x] w hi (by decide) hroom hc63 hvb hcl rfl hcs hsp hfz (fun j v hj => by cases j with | zero => cases hj; exact hx | succ j => cases hj) h1c (fun v hv => by simp at hv; subst hv; exact h1x) tA tB kA kB hsa hsb hkB hfa hfe
  endRoom := fun b off n c vb voff vc x w hroom hc63 hsp hfz hx h1x =>
    Any2.slices_Insert_int_end_room Tryz.laysNm221 b off n c vb voff 1 vc [x] w (by decide) hroom hc63 rfl (fun j hj => by rw [Nat.lt_one_iff.1 hj]; exact hsp) (fun j hj => by rw [Nat.lt_one_iff.1 hj]; exact hfz) (fun j v hj => by cases j with | zero => cases hj; exact hx | succ j => cases hj) (fun v hv => by simp at hv; subst hv; exact h1x)
  endGrow := fun a n c vb voff vc cs x w hnc hroom hbig hcl hcs hx h1x =>
    Any2.slices_Insert_int_end_grow Tryz.laysNm221 (some a) n c vb voff 1 vc cs [x] w (by decide) hnc hroom hbig hcl rfl (fun h => by cases h) (fun a' ha j v hj => by cases ha; exact hcs j v hj) (fun j v hj => by cases j with | zero => cases hj; exact hx | succ j => cases hj) (fun v hv => by simp at hv; subst hv; exact h1x)
  grow := fun b off n c i vb voff vc cs x w hi hnc hroom hbig hcl hcs hx h1c h1x =>
    Any2.slices_Insert_int_grow Tryz.laysNm221 b off n c i vb voff 1 vc cs [x] w hi (by decide) hnc hroom hbig hcl rfl hcs (fun j v hj => by cases j with | zero => cases hj; exact hx | succ j => cases hj) h1c (fun v hv => by simp at hv; subst hv; exact h1x)
  zone := rfl
end YtcpfgjfiacfmoaaGreatDoor
end Go.Proofs

set_option linter.unusedSimpArgs false
set_option linter.unusedVariables false
set_option maxRecDepth 100000
namespace Go.Proofs.YtcpfgjfiacfmoaaGreatDoor
open Go Go.AL
attribute [local irreducible] AOps AWp SOps AE AT ACall AApp

theorem sortZ_len (l : List Int) : (sortZ l).length = l.length := by rw [sortZ, List.length_mergeSort]
theorem compactsZ : Compacts X.P 78 (Value.int .i64) Lib.compact (fun zs => List.replicate (zs.length - (Lib.compact zs).length) 0) :=
  ⟨fun p cap w => Any.slices_Compact_int_empty Tryz.laysNm220 p cap w, fun blk cap ss w hH hsz hcap => Any.slices_Compact_int Tryz.laysNm220 blk 0 cap ss w hH hsz hcap⟩
theorem comp_upto {l : List Int} (hl : l.Pairwise (· ≤ ·)) : ∀ m, m ≤ l.length → (∀ x, x ∈ Lib.compactUpTo l.toArray m ↔ x ∈ l.take m) ∧ (Lib.compactUpTo l.toArray m).Pairwise (· < ·)
  | 0, _ => ⟨fun x => by simp [Lib.compactUpTo], by simp [Lib.compactUpTo]⟩
  | m + 1, hm => by
    obtain ⟨h1, h2⟩ := comp_upto hl m (by omega)
    have hx : l[m]? = some l[m] := List.getElem?_eq_getElem (by omega)
    have ex : l.toArray[m]! = l[m] := by rw [getElem!_pos _ _ (by simp; omega)]; simp
    rw [Lib.compactUpTo_succ, take_succ hx, ex]
    by_cases hk : Lib.keeps l.toArray m = true
    · rw [if_pos hk]
      refine ⟨fun x => by rw [List.mem_append, List.mem_append, h1], ?_⟩
      rw [List.pairwise_append]
      refine ⟨h2, List.pairwise_singleton _ _, fun a ha b hb => ?_⟩
      rw [List.mem_singleton] at hb
      subst hb
      have ha' := (h1 a).1 ha
      obtain ⟨j, hj, rfl⟩ := List.mem_take_iff_getElem.1 ha'
      have hjm : j < m := by omega
      have hle := List.pairwise_iff_getElem.1 hl j m (by omega) (by omega) hjm
      simp only [Lib.keeps, decide_eq_true_eq] at hk
      rcases hk with hk | hk
      · omega
      · have e2 : l.toArray[m - 1]! = l[m - 1] := by rw [getElem!_pos _ _ (by simp; omega)]; simp
        rw [ex, e2] at hk
        have h3 : l[j] ≤ l[m - 1] := by
          by_cases e : j = m - 1
          · subst e; exact Int.le_refl _
          · exact List.pairwise_iff_getElem.1 hl j (m - 1) (by omega) (by omega) (by omega)
        have h4 := List.pairwise_iff_getElem.1 hl (m - 1) m (by omega) (by omega) (by omega)
        omega
    · rw [if_neg hk, List.append_nil]
      refine ⟨fun x => ?_, h2⟩
      rw [h1, List.mem_append, List.mem_singleton]
      refine ⟨.inl, fun h => ?_⟩
      rcases h with h | rfl
      · exact h
      · have hk2 : ¬ (m = 0 ∨ l.toArray[m]! ≠ l.toArray[m - 1]!) := fun h => hk (by simp only [Lib.keeps, decide_eq_true_eq]; exact h)
        have hm0 : m ≠ 0 := fun h => hk2 (.inl h)
        have he : l.toArray[m]! = l.toArray[m - 1]! := Decidable.byContradiction fun h => hk2 (.inr h)
        have e2 : l.toArray[m - 1]! = l[m - 1] := by rw [getElem!_pos _ _ (by simp; omega)]; simp
        rw [ex, e2] at he
        rw [he, List.mem_take_iff_getElem]
        exact ⟨m - 1, by omega, rfl⟩
theorem sortZ_sorted (l : List Int) : (sortZ l).Pairwise (· ≤ ·) := by
  have := List.pairwise_mergeSort (le := fun x y : Int => decide (x ≤ y)) (fun a b c h k => by simp only [decide_eq_true_eq] at *; omega) (fun a b => by simp only [Bool.or_eq_true, decide_eq_true_eq]; omega) l
  exact this.imp (fun h => by simpa using h)
theorem sortZ_perm (l : List Int) : (sortZ l).Perm l := List.mergeSort_perm _ _
def onceZ (l : List Int) : List Int := Lib.compact (sortZ l)
theorem onceZ_mem (l : List Int) (x : Int) : x ∈ onceZ l ↔ x ∈ l := by
  have := (comp_upto (sortZ_sorted l) (sortZ l).length (Nat.le_refl _)).1 x
  rw [List.take_length] at this
  exact this.trans (sortZ_perm l).mem_iff
theorem onceZ_lt (l : List Int) : (onceZ l).Pairwise (· < ·) := (comp_upto (sortZ_sorted l) (sortZ l).length (Nat.le_refl _)).2
theorem sorted_uniq : ∀ {l m : List Int}, l.Pairwise (· < ·) → m.Pairwise (· < ·) → (∀ x, x ∈ l ↔ x ∈ m) → l = m := fun {l m} hl hm h => by
  have hp : l.Perm m := (List.perm_ext_iff_of_nodup (hl.imp fun h e => by subst e; exact absurd h (Int.lt_irrefl _)) (hm.imp fun h e => by subst e; exact absurd h (Int.lt_irrefl _))).2 h
  exact hp.eq_of_pairwise (le := (· < ·)) (fun a b _ _ h1 h2 => absurd (Int.lt_trans h1 h2) (Int.lt_irrefl _)) hl hm
theorem those_eq (n : Nat) (l : List Int) : onceZ (l.filter fun x => !!inR n x) = setL n l := by
  refine sorted_uniq (onceZ_lt _) (setL_lt n l) (fun x => ?_)
  rw [onceZ_mem, setL_mem, List.mem_filter]
  simp [inR]
set_option maxHeartbeats 4000000 in
theorem those_r (p : Pa) (hw : p.Wide) (t : Bool) (l : List Int) (hl : l.length ≤ 1000) (H : AHeap) (Kc : AV → AHeap → Prop) (h : ∀ s L, Ext H L → RowAt 3 1 H L ((setL p.events.length l).map intCells) s → Kc s L) : ACall X 43 [.agg p.cells, .sl t (l.map intCells)] H Kc := by
  rw [Pa.cells]
  refine ACall_intro Tryz.func43 rfl (by kernel_rfl) (by rw [Tryz.ntmps43]; simp) ?_; rw [Tryz.ntmps43]; simp only [frame0, Nat.reduceAdd]
  refine AWp_seq_k (fun K hK => ?_); apply s_region
  apply s_box; decide; exact (by simp only [go_sem]; try rfl); exact (by simp only [go_sem]; try rfl); intro q hq
  have g1 := AHeap.get_put_same q (paBox p) H
  have hE := Ext.fresh hq (o := paBox p)
  generalize hM : AHeap.put q (.box 35 [.sl false (p.names.map strCells), .sl false (p.events.map Ev.cells), .sl false (p.prev.map rowCells), .sl false (p.auth.map rowCells), .sl false (p.denied.map bolCells)]) H = M
  have hM2 : H.put q (paBox p) = M := hM
  rw [hM2] at g1 hE
  clear hM hM2
  (apply s_q; decide; rfl; (simp only [go_sem]; rfl); apply s_nil; simp only [AThen, ABlock]; refine hK _ _ ?_; clear hK K; refine AWp_seq_k (fun K hK => ?_); apply s_region; apply s_q; decide; rfl; (simp only [go_sem]; rfl); apply s_call; decide; (simp only [go_sem]; rfl); (simp only [go_sem]; rfl); apply clone_c t l (by omega); intro a1 L1 e1 r1; apply s_q; decide; rfl; (simp only [go_sem]; rfl))
  have hq1 := e1 _ _ g1
  have hE1 := hE.trans e1
  have r1b := RowAt.base r1 hE
  (apply s_call; decide; (simp only [go_sem]; rfl); (simp only [go_sem]; rfl); apply deleteFunc_c 77 q (paBox p) (fun _ _ _ h => by cases h) (fun x => !inR p.events.length x) l (by omega) H L1 hE1 a1 r1b hq1 (fun x L' hq' K hK => those1_d p hw x q L' hq' K hK); intro a2 L2 r2 e2 k2; apply s_q; decide; rfl; (simp only [go_sem]; rfl); apply s_nil; simp only [AThen, ABlock]; refine hK _ _ ?_; clear hK K; refine AWp_seq_k (fun K hK => ?_); apply s_region; apply s_q; decide; rfl; (simp only [go_sem]; rfl))
  obtain ⟨l2, hl2⟩ : ∃ l2, (l.filter fun x => !!inR p.events.length x) = l2 := ⟨_, rfl⟩
  have hl2n : l2.length ≤ 1000 := by rw [← hl2]; exact Nat.le_trans (List.length_filter_le _ _) hl
  have heq := those_eq p.events.length l
  rw [hl2] at r2 heq
  (apply s_call; decide; (simp only [go_sem]; rfl); (simp only [go_sem]; rfl); apply ACall_ord (ss := l2) sortsI61 (by kernel_rfl) (fun _ _ x => VR.v _) (fun F S v x hv => by cases hv; rfl) (sortZ_len _) e2 r2 (by omega); intro L3 r3 e3 k3; apply s_nil; simp only [AThen, ABlock]; refine hK _ _ ?_; clear hK K; refine AWp_seq_k (fun K hK => ?_); apply s_region; apply s_q; decide; rfl; (simp only [go_sem]; rfl))
  have hsl : (onceZ l2).length + (List.replicate ((sortZ l2).length - (Lib.compact (sortZ l2)).length) (0 : Int)).length = (sortZ l2).length := by
    have := Lib.compact_length_le (sortZ l2)
    rw [List.length_replicate]
    show (Lib.compact (sortZ l2)).length + _ = _
    omega
  (apply s_call; decide; (simp only [go_sem]; rfl); (simp only [go_sem]; rfl); apply ACall_compact (ss := sortZ l2) compactsZ (by kernel_rfl) (fun _ _ x => VR.v _) (fun F S v x hv => by cases hv; rfl) hsl e3 r3 (by rw [sortZ_len]; omega); intro a4 L4 r4 e4 k4; apply s_q; decide; rfl; (simp only [go_sem]; rfl); apply s_nil; simp only [AThen, ABlock]; refine hK _ _ ?_; clear hK K; apply AWp_ret)
  have r4 : RowAt 3 1 H L4 ((onceZ l2).map intCells) a4 := r4
  rw [heq] at r4
  exact h _ _ e4 r4
theorem those_c (p : Pa) (hw : p.Wide) (t : Bool) (l : List Int) (hl : l.length ≤ 1000) (H : AHeap) (Kc : AV → AHeap → Prop) (h : Kc (.sl false ((setL p.events.length l).map intCells)) H) : ACall X 43 [.agg p.cells, .sl t (l.map intCells)] H Kc :=
  ACall.gr (e := 3) (sz := 1) h (those_r p hw t l hl H _ fun s L h1 h2 => h2.toGr h1)
end Go.Proofs.YtcpfgjfiacfmoaaGreatDoor

set_option linter.unusedSimpArgs false
set_option linter.unusedVariables false
namespace Go.Proofs.YtcpfgjfiacfmoaaGreatDoor
open Go Go.AL

theorem pos_count {α : Type} {lt : α → α → Bool} (hi : ∀ a, lt a a = false) (ha : ∀ a c, lt a c = true → lt c a = false) {s : List α} (hs : s.Pairwise (fun a c => lt a c = true)) {n : Nat} {x : α} (hn : s[n]? = some x) :
    (s.filter fun k => lt k x).length = n := by
  obtain ⟨h1, h2⟩ := List.getElem?_eq_some_iff.1 hn
  have hd : s = s.take n ++ x :: s.drop (n + 1) := by
    rw [← h2, ← List.drop_eq_getElem_cons h1, List.take_append_drop]
  have ht : (s.take n).length = n := List.length_take_of_le (by omega)
  rw [hd] at hs
  rw [List.pairwise_append, List.pairwise_cons] at hs
  obtain ⟨_, ⟨k1, _⟩, k2⟩ := hs
  rw [hd, List.filter_append, List.filter_cons, if_neg (by rw [hi]; simp)]
  rw [List.filter_eq_self.2 (fun a h => k2 a h x (by simp)), List.filter_eq_nil_iff.2 (fun a h => by rw [ha _ _ (k1 a h)]; simp), List.append_nil, ht]
theorem sorted_one {α : Type} {lt : α → α → Bool} (hi : ∀ a, lt a a = false) (ha : ∀ a c, lt a c = true → lt c a = false) : ∀ {s t : List α}, s.Pairwise (fun a c => lt a c = true) → t.Pairwise (fun a c => lt a c = true) → s.Perm t → s = t
  | [], t, _, _, h => by rw [List.nil_perm.1 h]
  | x :: s, [], _, _, h => by have := h.length_eq; simp at this
  | x :: s, y :: t, h1, h2, h => by
    rw [List.pairwise_cons] at h1 h2
    have e : x = y := by
      have hx : x ∈ y :: t := h.mem_iff.1 (by simp)
      have hy : y ∈ x :: s := h.mem_iff.2 (by simp)
      rcases List.mem_cons.1 hx with e | hx
      · exact e
      rcases List.mem_cons.1 hy with e | hy
      · exact e.symm
      have := ha _ _ (h1.1 y hy)
      rw [h2.1 x hx] at this; cases this
    subst e
    rw [sorted_one hi ha h1.2 h2.2 (List.perm_cons _ |>.1 h)]
def bestI {α : Type} (lt : α → α → Bool) (l : List α) : Nat → Nat
  | 0 => 0
  | n + 1 => match l[n + 1]?, l[bestI lt l n]? with
    | some k, some c => if lt k c then n + 1 else bestI lt l n
    | _, _ => bestI lt l n
theorem bestI_le {α : Type} (lt : α → α → Bool) (l : List α) : ∀ n, bestI lt l n ≤ n
  | 0 => Nat.le_refl _
  | n + 1 => by
    unfold bestI
    have := bestI_le lt l n
    split
    · split <;> omega
    · omega
theorem bestI_ok {α : Type} {lt : α → α → Bool} (hi : ∀ a, lt a a = false) (ht : ∀ a c d, lt a c = true → lt c d = true → lt a d = true) (hn : ∀ a c, lt a c = true → lt c a = false) {l : List α} : ∀ (n : Nat), n < l.length → ∀ x, l[bestI lt l n]? = some x → ∀ m ≤ n, ∀ y, l[m]? = some y → lt y x = false
  | 0, _, x, hx, m, hm, y, hy => by
    have : m = 0 := by omega
    subst this
    simp only [bestI] at hx
    rw [hx] at hy; cases hy; exact hi _
  | n + 1, hl, x, hx, m, hm, y, hy => by
    obtain ⟨k, hk⟩ := gete hl
    obtain ⟨c, hc⟩ := gete (l := l) (i := bestI lt l n) (by have := bestI_le lt l n; omega)
    unfold bestI at hx
    rw [hk, hc] at hx
    simp only at hx
    split at hx
    · rename_i hlt
      rw [hk] at hx; cases hx
      by_cases e : m = n + 1
      · subst e; rw [hk] at hy; cases hy; exact hi _
      · cases hb : lt y x with
        | false => rfl
        | true =>
          have := bestI_ok hi ht hn n (by omega) c hc m (by omega) y hy
          rw [ht _ _ _ hb hlt] at this; cases this
    · rename_i hlt
      rw [hc] at hx; cases hx
      by_cases e : m = n + 1
      · subst e; rw [hk] at hy; cases hy; simpa using hlt
      · exact bestI_ok hi ht hn n (by omega) x hc m (by omega) y hy
theorem pick_sorted {α : Type} {lt : α → α → Bool} (hi : ∀ a, lt a a = false) (ht : ∀ a c d, lt a c = true → lt c d = true → lt a d = true) (hn : ∀ a c, lt a c = true → lt c a = false) {l s : List α}
    (htot : ∀ a ∈ l, ∀ c ∈ l, a ≠ c → lt a c = true ∨ lt c a = true) (hnd : l.Nodup) {j : Nat} {x : α} (hx : l[j]? = some x) (hmin : ∀ y ∈ l, lt y x = false)
    (hs : s.Pairwise (fun a c => lt a c = true)) (hp : s.Perm (l.eraseIdx j)) : (x :: s).Pairwise (fun a c => lt a c = true) ∧ (x :: s).Perm l := by
  obtain ⟨h1, h2⟩ := List.getElem?_eq_some_iff.1 hx
  have hpl : (x :: l.eraseIdx j).Perm l := by
    have h3 : l = l.take j ++ x :: l.drop (j + 1) := by rw [← h2, ← List.drop_eq_getElem_cons h1, List.take_append_drop]
    rw [List.eraseIdx_eq_take_drop_succ]
    conv => rhs; rw [h3]
    exact List.perm_middle.symm
  refine ⟨List.pairwise_cons.2 ⟨fun y hy => ?_, hs⟩, (hp.cons x).trans hpl⟩
  have hye : y ∈ l.eraseIdx j := hp.mem_iff.1 hy
  have hyl : y ∈ l := hpl.mem_iff.1 (by simp [hye])
  have hne : x ≠ y := by
    rintro rfl
    have := hpl.nodup_iff.2 hnd
    exact (List.nodup_cons.1 this).1 hye
  rcases htot x (hpl.mem_iff.1 (by simp)) y hyl hne with h | h
  · exact h
  · rw [hmin y hyl] at h; cases h
end Go.Proofs.YtcpfgjfiacfmoaaGreatDoor

set_option linter.unusedSimpArgs false
set_option linter.unusedVariables false
set_option maxRecDepth 100000
namespace Go.Proofs.YtcpfgjfiacfmoaaGreatDoor
open Go Go.AL
attribute [local irreducible] AOps AWp SOps AE AT ACall AApp

def ageLt (p : Pa) (a b : Nat) : Prop := (evAt p a).ts < (evAt p b).ts ∨ ((evAt p a).ts = (evAt p b).ts ∧ (nmAt p a < nmAt p b ∨ (nmAt p a = nmAt p b ∧ a < b)))
theorem age_irr (p : Pa) (a : Nat) : ¬ ageLt p a a := by
  rintro (h | ⟨_, h | ⟨_, h⟩⟩)
  · omega
  · exact lt_irr _ h
  · omega
theorem age_tr {p : Pa} {a b c : Nat} (h : ageLt p a b) (k : ageLt p b c) : ageLt p a c := by
  rcases h with h | ⟨h1, h⟩
  · rcases k with k | ⟨k1, _⟩
    · exact .inl (Int.lt_trans h k)
    · exact .inl (by rw [← k1]; exact h)
  · rcases k with k | ⟨k1, k⟩
    · exact .inl (by rw [h1]; exact k)
    · refine .inr ⟨h1.trans k1, ?_⟩
      rcases h with h | ⟨h2, h⟩
      · rcases k with k | ⟨k2, _⟩
        · exact .inl (lt_tr h k)
        · exact .inl (by rw [← k2]; exact h)
      · rcases k with k | ⟨k2, k⟩
        · exact .inl (by rw [h2]; exact k)
        · exact .inr ⟨h2.trans k2, by omega⟩
theorem age_tot (p : Pa) {a b : Nat} (hn : a ≠ b) : ageLt p a b ∨ ageLt p b a := by
  rcases Int.lt_trichotomy (evAt p a).ts (evAt p b).ts with h | h | h
  · exact .inl (.inl h)
  · rcases lt_tri (nmAt p a) (nmAt p b) with k | k | k
    · exact .inl (.inr ⟨h, .inl k⟩)
    · rcases Nat.lt_or_ge a b with m | m
      · exact .inl (.inr ⟨h, .inr ⟨k, m⟩⟩)
      · exact .inr (.inr ⟨h.symm, .inr ⟨k.symm, by omega⟩⟩)
    · exact .inr (.inr ⟨h.symm, .inl k⟩)
  · exact .inr (.inl h)
def ordI (p : Pa) (ff : Int → Int) (a b : Nat) : Int := firstNZ [cmp (ff b) (ff a), ageI p a b]
def ordLt (p : Pa) (ff : Int → Int) (a b : Nat) : Prop := ff b < ff a ∨ (ff a = ff b ∧ ageLt p a b)
theorem ordI_lt {p : Pa} {ff : Int → Int} {a b : Nat} : ordI p ff a b < 0 ↔ ordLt p ff a b := by
  rw [ordI, ordLt]
  simp only [firstNZ]
  by_cases h : cmp (ff b) (ff a) = 0
  · rw [if_pos h]
    have e := Go.AL.cmp_zero.1 h
    by_cases h2 : ageI p a b = 0
    · have hno : ¬ ageLt p a b := fun h3 => by have := age_neg.2 h3; omega
      simp [h2, hno]; omega
    · rw [if_neg h2, age_neg]
      simp only [e, Int.lt_irrefl, false_or, true_and]; rfl
  · rw [if_neg h, cmp_pos]
    have hne : ff a ≠ ff b := fun e => h (Go.AL.cmp_zero.2 e.symm)
    simp [hne]
theorem ord_irr {p : Pa} {ff : Int → Int} (a : Nat) : ¬ ordLt p ff a a := by
  rintro (h | ⟨_, h⟩)
  · omega
  · exact age_irr p a h
theorem ord_tr {p : Pa} {ff : Int → Int} {a b c : Nat} (h : ordLt p ff a b) (k : ordLt p ff b c) : ordLt p ff a c := by
  rcases h with h | ⟨h1, h⟩
  · rcases k with k | ⟨k1, _⟩
    · exact .inl (Int.lt_trans k h)
    · exact .inl (by rw [← k1]; exact h)
  · rcases k with k | ⟨k1, k⟩
    · exact .inl (by rw [h1]; exact k)
    · exact .inr ⟨h1.trans k1, age_tr h k⟩
theorem ord_tot (p : Pa) (ff : Int → Int) {a b : Nat} (hn : a ≠ b) : ordLt p ff a b ∨ ordLt p ff b a := by
  rcases Int.lt_trichotomy (ff a) (ff b) with h | h | h
  · exact .inr (.inl h)
  · rcases age_tot p hn with k | k
    · exact .inl (.inr ⟨h, k⟩)
    · exact .inr (.inr ⟨h.symm, k⟩)
  · exact .inl (.inl h)
def ltB (p : Pa) (ff : Int → Int) (a b : Int) : Bool := decide (ordI p ff a.toNat b.toNat < 0)
theorem ltB_iff {p : Pa} {ff : Int → Int} {a b : Int} : ltB p ff a b = true ↔ ordLt p ff a.toNat b.toNat := by rw [ltB, decide_eq_true_iff, ordI_lt]
theorem ltB_irr (p : Pa) (ff : Int → Int) : ∀ a, ltB p ff a a = false := fun a => by
  cases h : ltB p ff a a with
  | false => rfl
  | true => exact absurd (ltB_iff.1 h) (ord_irr _)
theorem ltB_tr (p : Pa) (ff : Int → Int) : ∀ a c d, ltB p ff a c = true → ltB p ff c d = true → ltB p ff a d = true := fun a c d h k => ltB_iff.2 (ord_tr (ltB_iff.1 h) (ltB_iff.1 k))
theorem ltB_asy (p : Pa) (ff : Int → Int) : ∀ a c, ltB p ff a c = true → ltB p ff c a = false := fun a c h => by
  cases k : ltB p ff c a with
  | false => rfl
  | true => exact absurd (ord_tr (ltB_iff.1 h) (ltB_iff.1 k)) (ord_irr _)
theorem ltB_tot (p : Pa) (ff : Int → Int) {a c : Int} (ha : 0 ≤ a) (hc : 0 ≤ c) (hn : a ≠ c) : ltB p ff a c = true ∨ ltB p ff c a = true := by
  rcases ord_tot p ff (a := a.toNat) (b := c.toNat) (by omega) with h | h
  · exact .inl (ltB_iff.2 h)
  · exact .inr (ltB_iff.2 h)
def Ordered (p : Pa) (ff : Int → Int) (l s : List Int) : Prop := s.Pairwise (fun a c => ltB p ff a c = true) ∧ s.Perm l
theorem ordered_one {p : Pa} {ff : Int → Int} {l s t : List Int} (h : Ordered p ff l s) (k : Ordered p ff l t) : s = t :=
  sorted_one (ltB_irr p ff) (ltB_asy p ff) h.1 k.1 (h.2.trans k.2.symm)
theorem ord_swo (p : Pa) (ff : Int → Int) (l : List Int) (n : Nat) : Swo n (fun i j => ordI p ff (l.getD i 0).toNat (l.getD j 0).toNat) where
  irrefl := fun i _ h => ord_irr _ (ordI_lt.1 h)
  trans := fun i j k _ _ _ h1 h2 => ordI_lt.2 (ord_tr (ordI_lt.1 h1) (ordI_lt.1 h2))
  ntrans := fun i j k _ _ _ h1 h2 h3 => by
    simp only [ordI_lt] at h1 h2 h3
    by_cases e1 : (l.getD i 0).toNat = (l.getD j 0).toNat
    · rw [e1] at h3; exact h2 h3
    · by_cases e2 : (l.getD j 0).toNat = (l.getD k 0).toNat
      · rw [← e2] at h3; exact h1 h3
      · have k1 := (ord_tot p ff e1).resolve_left h1
        have k2 := (ord_tot p ff e2).resolve_left h2
        exact ord_irr _ (ord_tr h3 (ord_tr k2 k1))
theorem perm_getD {l : List Int} {q : List Nat} (hq : q.Perm (List.range l.length)) : (q.map fun i => l.getD i 0).Perm l := by
  have h2 : (List.range l.length).map (fun i => l.getD i 0) = l := by
    apply List.ext_getElem?
    intro i
    by_cases hi : i < l.length
    · simp [hi]
    · simp [hi]
  have := hq.map (fun i => l.getD i 0)
  rwa [h2] at this
theorem ordered_of {p : Pa} {ff : Int → Int} {l : List Int} {q : List Nat} (hnd : l.Nodup) (hpos : ∀ x ∈ l, 0 ≤ x) (hq : q.Perm (List.range l.length))
    (hs : ∀ i j a d : Nat, i < j → q[i]? = some a → q[j]? = some d → ¬ ordI p ff (l.getD d 0).toNat (l.getD a 0).toNat < 0) : Ordered p ff l (q.map fun i => l.getD i 0) := by
  have hp := perm_getD hq
  refine ⟨?_, hp⟩
  rw [List.pairwise_iff_getElem]
  intro i j hi hj hij
  have hi' : i < q.length := by simpa using hi
  have hj' : j < q.length := by simpa using hj
  have hqn := hq.nodup_iff.2 List.nodup_range
  have hne : q[i] ≠ q[j] := fun e => by have := (List.getElem_inj hqn).1 e; omega
  have ha : q[i] < l.length := List.mem_range.1 (hq.mem_iff.1 (List.getElem_mem hi'))
  have hb : q[j] < l.length := List.mem_range.1 (hq.mem_iff.1 (List.getElem_mem hj'))
  have h1 := hs i j _ _ hij (List.getElem?_eq_getElem hi') (List.getElem?_eq_getElem hj')
  rw [ordI_lt] at h1
  simp only [List.getElem_map]
  have ea : l.getD q[i] 0 = l[q[i]] := getD_some (List.getElem?_eq_getElem ha)
  have eb : l.getD q[j] 0 = l[q[j]] := getD_some (List.getElem?_eq_getElem hb)
  rw [ea, eb] at h1 ⊢
  have hv : l[q[i]] ≠ l[q[j]] := fun e => hne ((List.getElem_inj hnd).1 e)
  rcases ltB_tot p ff (hpos _ (List.getElem_mem ha)) (hpos _ (List.getElem_mem hb)) hv with h | h
  · exact h
  · exact absurd (ltB_iff.1 h) h1
theorem perm_cellsI {l : List Int} {q : List Nat} (hq : q.Perm (List.range l.length)) : (q.map fun i => (l.map intCells).getD i []) = (q.map fun i => l.getD i 0).map intCells := by
  rw [List.map_map]
  apply List.map_congr_left
  intro i hi
  have h := List.mem_range.1 (hq.mem_iff.1 hi)
  obtain ⟨x, hx⟩ := gete h
  show (l.map intCells).getD i [] = intCells (l.getD i 0)
  rw [getD_some hx, getD_some (int_at hx)]; rfl
def mkN (ff : Int → Int) (S : List Int) : List (Int × AV) := S.map fun k => (k, .v (.int .i64 (ff k)))
theorem mkN_find (ff : Int → Int) (k : Int) : ∀ S : List Int, kfind k (mkN ff S) = if k ∈ S then some (.v (.int .i64 (ff k))) else none
  | [] => rfl
  | x :: S => by
    have ih := mkN_find ff k S
    rw [mkN] at ih ⊢
    rw [List.map_cons, kfind, ih]
    by_cases e : x = k
    · subst e; simp
    · simp [e, Ne.symm e]
theorem mkN_put {ff : Int → Int} {k : Int} : ∀ {S : List Int}, k ∉ S → kput k (.v (.int .i64 (ff k))) (mkN ff S) = mkN ff (S ++ [k])
  | [], _ => rfl
  | x :: S, h => by
    have ih := mkN_put (ff := ff) (k := k) (S := S) (fun hm => h (by simp [hm]))
    rw [mkN] at ih
    rw [mkN, List.map_cons, kput, if_neg (fun e => h (by have e : x = k := e; simp [e])), ih]
    rfl
theorem setL_nd (n : Nat) (l : List Int) : (setL n l).Nodup := (setL_lt n l).imp fun h e => by subst e; exact absurd h (Int.lt_irrefl _)
theorem setL_pos {n : Nat} {l : List Int} : ∀ x ∈ setL n l, 0 ≤ x ∧ x < n := fun x hx => (setL_mem.1 hx).2
theorem fresh_at {l : List Int} (hnd : l.Nodup) {i : Nat} {x : Int} (hx : l[i]? = some x) : x ∉ l.take i := fun hm => by
  obtain ⟨j, hj, e⟩ := List.mem_take_iff_getElem.1 hm
  obtain ⟨hi, e2⟩ := List.getElem?_eq_some_iff.1 hx
  rw [← e2] at e
  have := (List.getElem_inj hnd).1 e
  omega
def nearF (p : Pa) (line : List Int) : Int → Int := fun k => nearA p line k
def ByLine (p : Pa) (l : List Int) (power : Int) (s : List Int) : Prop := if rightB p = true then Ordered p (nearF p (lineA p power)) (setL p.events.length l) s else s = []
abbrev pCells (p : Pa) : List AV := [.sl false (p.names.map strCells), .sl false (p.events.map Ev.cells), .sl false (p.prev.map rowCells), .sl false (p.auth.map rowCells), .sl false (p.denied.map bolCells)]
set_option maxHeartbeats 4000000 in
theorem byLine_c (p : Pa) (hw : p.Wide) (hn : p.events.length ≤ 1000) (t : Bool) (l : List Int) (hl : l.length ≤ 1000) (power : Int) (H : AHeap) (Kc : AV → AHeap → Prop) (h : ∀ s, ByLine p l power s → Kc (.sl false (s.map intCells)) H) : ACall X 30 [.agg p.cells, .sl t (l.map intCells), .v (.int .i64 power)] H Kc := by
  refine ACall.grE (e := 3) (sz := 1) (S := fun es => ∃ s, es = s.map intCells ∧ ByLine p l power s) (fun es hs => by obtain ⟨s, rfl, hs⟩ := hs; exact h s hs) ?_
  clear h
  have hR : ∀ (H : AHeap) (K : AV → AHeap → Prop), K (.v (.bool (rightB p))) H → ACall X 25 [.agg (pCells p)] H K := fun H K hK => right_c p hw H K hK
  have hL : ∀ (H : AHeap) (K : AV → AHeap → Prop), K (.sl false ((lineA p power).map intCells)) H → ACall X 21 [.agg (pCells p), .v (.int .i64 power)] H K := fun H K hK => line_c p hw hn power H K hK
  have hT : ∀ (H : AHeap) (K : AV → AHeap → Prop), (∀ s L, Ext H L → RowAt 3 1 H L ((setL p.events.length l).map intCells) s → K s L) → ACall X 43 [.agg (pCells p), .sl t (l.map intCells)] H K := fun H K hK => those_r p hw t l hl H K hK
  have hll := lineA_len (p := p) (i := power)
  have hN : ∀ (i : Int) (H : AHeap) (K : AV → AHeap → Prop), K (.v (.int .i64 (nearA p (lineA p power) i))) H → ACall X 23 [.agg (pCells p), .sl false ((lineA p power).map intCells), .v (.int .i64 i)] H K := fun i H K hK => near_c p hw hn false (lineA p power) (by omega) i H K hK
  rw [Pa.cells]
  refine ACall_intro Tryz.func30 rfl (by kernel_rfl) (by rw [Tryz.ntmps30]; simp) ?_; rw [Tryz.ntmps30]; simp only [frame0, Nat.reduceAdd]
  refine AWp_seq_k (fun K hK => ?_); apply s_region
  apply s_box; decide; exact (by simp only [go_sem]; try rfl); exact (by simp only [go_sem]; try rfl); intro q hq
  generalize hgenq : AHeap.put q _ H = M; obtain ⟨g1, hextq⟩ := gen_ex hgenq hq; have hE := hextq; clear hextq hgenq
  have hHq : H.get q = none := hq
  (apply s_q; decide; rfl; (simp only [go_sem, g1]; rfl); apply s_nil; simp only [AThen, ABlock]; refine hK _ _ ?_; clear hK K; (iterate 2 (refine AWp_seq_k (fun K hK => ?_))); apply s_region; apply s_q; decide; rfl; (simp only [go_sem, g1]; rfl); apply s_call; decide; (simp only [go_sem, g1]; rfl); (simp only [go_sem, g1]; rfl); apply hR; apply s_q; decide; rfl; (simp only [go_sem, g1]; rfl); apply s_nil; simp only [AThen, ABlock]; refine hK _ _ ?_; clear hK K)
  refine cond_split (by simp only [go_sem]; try rfl) (fun hc => ?_) (fun hc => ?_)
  · have hc : rightB p = false := by simpa using hc
    (refine AWp_seq_k (fun K hK => ?_); apply s_region; apply s_q; decide; rfl; (simp only [go_sem]; rfl); apply s_nil; simp only [AThen, ABlock]; refine hK _ _ ?_; clear hK K; apply AWp_ret; simp only [AThen, ABlock]; apply end_ret; rfl; simp only [AFr.get, reduceIte, Nat.reduceEqDiff])
    exact ⟨[], ⟨[], rfl, by rw [ByLine, if_neg (by rw [hc]; decide)]⟩, M, hE, .inl ⟨rfl, rfl, rfl⟩⟩
  have hc : rightB p = true := by simpa using hc
  have hr := right_true hc
  apply AWp_skip; simp only [AThen, ABlock]; refine hK _ _ ?_; clear hK K
  refine AWp_seq_k (fun K hK => ?_); apply s_region
  ((iterate 2 (apply s_q; decide; rfl; (simp only [go_sem, g1]; rfl))); apply s_call; decide; (simp only [go_sem, g1]; rfl); (simp only [go_sem, g1]; rfl); apply hL; apply s_q; decide; rfl; (simp only [go_sem, g1]; rfl))
  apply s_nil; simp only [AThen, ABlock]; refine hK _ _ ?_; clear hK K
  refine AWp_seq_k (fun K hK => ?_); apply s_region
  apply s_imap; decide; exact mp_86; intro mb hmb
  generalize hgenq : AHeap.put mb _ M = M1; obtain ⟨gm, hextq⟩ := gen_ex hgenq hmb; have g1 := hextq _ _ g1; have hE := Ext.trans hE hextq; clear hextq hgenq
  have hHm : H.get mb = none := none_of_ext (by assumption) hmb
  apply s_alloc; decide; exact zc_86; intro tb htb
  (apply s_store; (simp only [go_sem]; rfl); (simp only [go_sem]; rfl); (simp only [go_sem]; rfl))
  apply s_nil; simp only [AThen, ABlock]; refine hK _ _ ?_; clear hK K
  generalize hgenq : AHeap.put tb _ M1 = M2; obtain ⟨gt, hextq⟩ := gen_ex hgenq htb; have g1 := hextq _ _ g1; have gm := hextq _ _ gm; have hE := Ext.trans hE hextq; clear hextq hgenq
  have hHt : H.get tb = none := none_of_ext (by assumption) htb
  (refine AWp_seq_k (fun K hK => ?_); apply s_region; (iterate 2 (apply s_q; decide; rfl; (simp only [go_sem, g1]; rfl))); apply s_call; decide; (simp only [go_sem, g1]; rfl); (simp only [go_sem, g1]; rfl); apply hT; intro a L0 hE0 hR0; apply s_q; decide; rfl; (simp only [go_sem, g1]; rfl); apply s_nil; simp only [AThen, ABlock]; refine hK _ _ ?_; clear hK K; (iterate 2 (refine AWp_seq_k (fun K hK => ?_))); apply s_region; apply s_q; decide; rfl; (simp only [go_sem, g1]; rfl))
  have hR0 := RowAt.base hR0 hE
  have hE0' := hE.trans hE0
  have hq0 := hE0 _ _ g1
  have hm0 := hE0 _ _ gm
  have ht0 := hE0 _ _ gt
  have hln := setL_len p.events.length l
  have hnd := setL_nd p.events.length l
  have hpo := setL_pos (n := p.events.length) (l := l)
  have hBy : ∀ s, Ordered p (nearF p (lineA p power)) (setL p.events.length l) s → ByLine p l power s := fun s hs => by rw [ByLine, if_pos hc]; exact hs
  generalize setL p.events.length l = ls at hR0 hln hnd hpo hBy
  have hlo := rowAt_len (e' := 3) (s' := some 1) hR0 L0
  rw [List.length_map] at hlo
  ((apply s_q; decide; rfl; (simp only [go_sem]; exact hlo)); apply s_q; decide; rfl; (simp only [go_sem]; rfl); apply s_nil; simp only [AThen, ABlock]; refine hK _ _ ?_; clear hK K; apply AWp_block)
  clear g1 gm gt hE hE0 hlo
  refine AWp_loop_s (σ := Nat × AHeap) [3, 7, 8, 9, 22, 23, 24] (fun s => [ptrTo q, .sl false ((lineA p power).map intCells), ptrTo tb, a, a, .v (.int .i64 (ls.length : Nat)), .v (.int .i64 (s.1 : Int))]) (fun s => s.2) (fun s => ls.length - s.1)
    (fun s => s.1 ≤ ls.length ∧ s.2.get q = some (.box 35 (pCells p)) ∧ s.2.get tb = some (.box 86 [.v (.map (some mb))]) ∧ s.2.get mb = some (.imap .i64 (mkN (nearF p (lineA p power)) (ls.take s.1))) ∧ Ext H s.2 ∧ RowAt 3 1 H s.2 (ls.map intCells) a)
    (0, L0) ⟨Nat.zero_le _, hq0, ht0, hm0, hE0', hR0⟩ rfl rfl (fun s hs => ?_)
  obtain ⟨i, L⟩ := s
  obtain ⟨hi, hqL, htL, hmL, hEL, hRL⟩ := hs
  clear hq0 ht0 hm0 hE0' hR0
  simp only [List.zip_cons_cons, List.zip_nil_right] at hi hqL htL hmL hEL hRL ⊢
  (refine AWp_seq_k (fun K hK => ?_); apply s_region; apply s_q; decide; rfl; (simp only [go_sem]; rfl); apply s_nil; simp only [AThen, ABlock]; refine hK _ _ ?_; clear hK K; refine AWp_seq_k (fun K hK => ?_))
  refine cond_split (by simp only [go_sem]; try rfl) (fun hd => ?_) (fun hd => ?_)
  · have hlt : i < ls.length := by simpa using hd
    obtain ⟨x, hx⟩ := gete hlt
    obtain ⟨pp, hp, hpc⟩ := (arr_of hRL).at_ hx
    have hmt : mb ≠ tb := by rintro rfl; rw [hmL] at htL; cases htL
    have hmq : mb ≠ q := by rintro rfl; rw [hmL] at hqL; cases hqL
    (apply AWp_skip; simp only [AThen, ABlock]; refine hK _ _ ?_; clear hK K; refine AWp_seq_k (fun K hK => ?_); apply AWp_block; refine AWp_seq_k (fun K hK => ?_); apply s_region; (apply s_q; decide; rfl; (simp only [pvK, AFr.ev, AFr.get, reduceIte, Nat.reduceEqDiff, tk_38]; exact hp)); (apply s_q; decide; rfl; (simp only [pvK, AFr.ev, AFr.get, reduceIte, Nat.reduceEqDiff, lay_3, hpc, Option.bind_some, ldK]; rfl)); apply s_q; decide; rfl; (simp only [go_sem]; rfl); apply s_nil; simp only [AThen, ABlock]; refine hK _ _ ?_; clear hK K)
    apply AWp_drawA [0, 1, 2, 3, 4, 5] [6] 0 (by exact mixed); kernel_rfl; (simp only [go_sem]; rfl); (simp only [go_sem]; rfl)
    ((iterate 5 (apply e_q; decide; (simp only [go_sem, hqL, htL, hmL]; rfl))); apply e_call; decide; (simp only [go_sem, hqL, htL, hmL]; rfl); (simp only [go_sem, hqL, htL, hmL]; rfl); (apply hN; exact ⟨rfl, rfl⟩); apply e_nil; apply t_mapput; rfl; (simp only [go_sem, hqL, htL, hmL]; rfl); (simp only [go_sem, hqL, htL, hmL]; rfl); (simp only [go_sem, hqL, htL, hmL]; rfl); (simp only [go_sem, hqL, htL, hmL]; rfl); apply t_nil; simp only [AThen, ABlock]; refine hK _ _ ?_; clear hK K; apply s_region; (iterate 2 (apply s_q; decide; rfl; (simp only [go_sem, hqL, htL, hmL]; rfl))); apply s_nil; simp only [AThen, ABlock])
    have k1 := get_other (x := .imap .i64 (kput x (.v (.int .i64 (nearA p (lineA p power) x))) (mkN (nearF p (lineA p power)) (ls.take i)))) hqL (Ne.symm hmq)
    have k2 := get_other (x := .imap .i64 (kput x (.v (.int .i64 (nearA p (lineA p power) x))) (mkN (nearF p (lineA p power)) (ls.take i)))) htL (Ne.symm hmt)
    have k3 := hEL.over (o := .imap .i64 (kput x (.v (.int .i64 (nearA p (lineA p power) x))) (mkN (nearF p (lineA p power)) (ls.take i)))) hHm
    have k4 := hRL.put hmL (fun _ _ _ h => by cases h) (o' := .imap .i64 (kput x (.v (.int .i64 (nearA p (lineA p power) x))) (mkN (nearF p (lineA p power)) (ls.take i))))
    refine ⟨(i + 1, L.put mb (.imap .i64 (kput x (.v (.int .i64 (nearA p (lineA p power) x))) (mkN (nearF p (lineA p power)) (ls.take i))))), by simp only; omega, ⟨by simp only; omega, k1, k2, ?_, k3, k4⟩, ?_, by rfl⟩
    · simp only
      rw [AHeap.get_put_same, take_succ hx]
      exact congrArg (fun e => some (AObj.imap .i64 e)) (mkN_put (ff := nearF p (lineA p power)) (fresh_at hnd hx))
    · simp only [getAll, List.map_cons, List.map_nil, AFr.get, reduceIte, Nat.reduceEqDiff]
      rw [wrapS hlt (by omega)]; try rfl
  have hge : ls.length ≤ i := by simpa using hd
  rw [List.take_of_length_le hge] at hmL
  apply AWp_exit; simp only [AThen, ABlock, reduceIte, Nat.reduceEqDiff]; clear hK K; refine hK _ _ ?_; clear hK K
  refine AWp_cut [3, 8, 9] (vs := [ptrTo q, ptrTo tb, a]) rfl ?_
  simp only [List.zip_cons_cons, List.zip_nil_right]
  obtain ⟨F, hF⟩ : ∃ F, nearF p (lineA p power) = F := ⟨_, rfl⟩
  rw [hF] at hmL hBy
  refine AWp.hold hmL (fun ents clock => ?_)
  have hmt : mb ≠ tb := by rintro rfl; rw [hmL] at htL; cases htL
  have hmq : mb ≠ q := by rintro rfl; rw [hmL] at hqL; cases hqL
  have htq : tb ≠ q := by rintro rfl; rw [htL] at hqL; cases hqL
  have k1 := get_other (x := kmOf ents clock (mkN F ls)) hqL (Ne.symm hmq)
  have k2 := get_other (x := kmOf ents clock (mkN F ls)) htL (Ne.symm hmt)
  have k3 := AHeap.get_put_same mb (kmOf ents clock (mkN F ls)) L
  have k4 := hEL.over (o := kmOf ents clock (mkN F ls)) hHm
  have k5 := hRL.put hmL (fun _ _ _ h => by cases h) (o' := kmOf ents clock (mkN F ls))
  clear hqL htL hmL hEL hRL
  have hgen : ∃ L1, L.put mb (kmOf ents clock (mkN F ls)) = L1 := ⟨_, rfl⟩
  obtain ⟨L1, hL1⟩ := hgen
  rw [hL1] at k1 k2 k3 k4 k5
  rw [show AHeap.put mb (.kmap ents clock ((mkN F ls).map fun p => .v (.int .i64 p.1)) ((mkN F ls).map (·.2))) L = L1 from hL1]
  refine AWp.freeze (t := 8) k2 rfl (by decide) ?_
  have m1 : (L1.del tb).get q = some (.box 35 (pCells p)) := by rw [AHeap.get_del, if_neg (Ne.symm htq)]; exact k1
  refine AWp.freeze (t := 3) m1 rfl (by decide) ?_
  have n3 : ((L1.del tb).del q).get mb = some (kmOf ents clock (mkN F ls)) := by rw [AHeap.get_del, if_neg hmq, AHeap.get_del, if_neg hmt]; exact k3
  have n4 : Ext H ((L1.del tb).del q) := (k4.del hHt).del hHq
  have n5 := (k5.del k2 (fun _ _ _ h => by cases h)).del m1 (fun _ _ _ h => by cases h)
  generalize (L1.del tb).del q = L2 at n3 n4 n5 ⊢
  clear k1 k2 k3 k4 k5 m1
  (refine AWp_seq_k (fun K hK => ?_); apply s_region; (iterate 2 (apply s_q; decide; rfl; (simp only [go_sem]; rfl))))
  apply s_call; decide; exact (by simp only [go_sem]; try rfl); exact (by simp only [go_sem]; try rfl)
  refine ACall_sortAtM (Hc := AHeap.nil.put mb (kmOf ents clock (mkN F ls))) (k := 1) (mkA := fun bs => bs.headD .top) (c := fun i j => ordI p F (ls.getD i 0).toNat (ls.getD j 0).toNat) sorts62 (by kernel_rfl) (by kernel_rfl) mk_one n4 n5 (by rw [List.length_map]; omega) (fun x hx => ?_) (ord_swo p F ls _) (fun d o hd => ?_) (fun i j x y hx hy K2 hK2 => ?_) (fun pm L5 hp1 hp2 hp3 hp4 hp5 => ?_)
  · obtain ⟨d, _, rfl⟩ := List.mem_map.1 hx; rfl
  · rw [AHeap.get_put] at hd
    split at hd
    · rename_i e; subst e; cases hd
      exact ⟨(fun _ h => by cases h), n3, _, _, _, _, rfl⟩
    · cases hd
  · obtain ⟨a1, ha⟩ := gete (l := ls) (i := i) (by have := (List.getElem?_eq_some_iff.1 hx).1; simpa using this)
    obtain ⟨b1, hb⟩ := gete (l := ls) (i := j) (by have := (List.getElem?_eq_some_iff.1 hy).1; simpa using this)
    rw [int_at ha] at hx
    rw [int_at hb] at hy
    cases hx; cases hy
    have ha2 := hpo a1 (List.mem_of_getElem? ha)
    have hb2 := hpo b1 (List.mem_of_getElem? hb)
    have fa := mkN_find F a1 ls
    have fb := mkN_find F b1 ls
    rw [if_pos (List.mem_of_getElem? ha)] at fa
    rw [if_pos (List.mem_of_getElem? hb)] at fb
    rw [getD_some ha, getD_some hb] at hK2
    obtain ⟨an, rfl⟩ : ∃ n : Nat, a1 = n := ⟨a1.toNat, by omega⟩
    obtain ⟨bn, rfl⟩ : ∃ n : Nat, b1 = n := ⟨b1.toNat, by omega⟩
    exact cmpN_c p hr mb ents clock (mkN F ls) an bn (by omega) (by omega) (F an) (F bn) fa fb _ (AHeap.get_put_same _ _ _) K2 hK2
  · rw [List.length_map] at hp1
    rw [perm_cellsI hp1] at hp3
    have hord := ordered_of (p := p) (ff := F) hnd (fun x hx => (hpo x hx).1) hp1 hp2
    (apply s_nil; simp only [AThen, ABlock]; refine hK _ _ ?_; clear hK K; refine AWp_seq_k (fun K hK => ?_); apply s_region; (iterate 2 (apply s_q; decide; rfl; (simp only [go_sem]; rfl))); apply s_nil; simp only [AThen, ABlock]; refine hK _ _ ?_; clear hK K; apply AWp_ret)
    obtain ⟨L6, h1, h2⟩ := hp3.toGr hp4
    exact ⟨_, ⟨_, rfl, hBy _ hord⟩, L6, h1, h2⟩
end Go.Proofs.YtcpfgjfiacfmoaaGreatDoor

set_option linter.unusedSimpArgs false
set_option linter.unusedVariables false
namespace Go.Proofs.YtcpfgjfiacfmoaaGreatDoor.Rk
open Go Go.AL

structure Kids (H L : AHeap) (n bk bw : Nat) (ks : Nat → AV) (Kd : Nat → List Nat) (W : Nat → Nat) : Prop where
  ext : Ext H L
  k : L.get bk = some (.row 38 1 false ((List.range n).map fun p => [ks p]))
  w : L.get bw = some (.row 2 1 false ((List.range n).map fun j => intCells (W j : Nat)))
  nk : H.get bk = none
  nw : H.get bw = none
  held : ∀ p, p < n → HeldAt 3 1 L (cellsN (Kd p)) (ks p)
  fresh : ∀ p b m, p < n → ks p = .row b 1 m → H.get b = none ∧ b ≠ bw
  dist : ∀ p p' b m m', p < n → p' < n → ks p = .row b 1 m → ks p' = .row b 1 m' → p = p'
structure Apart (H : AHeap) (n bk bw : Nat) (ks : Nat → AV) (x : Nat) : Prop where
  ak : x ≠ bk
  aw : x ≠ bw
  an : H.get x = none
  aks : ∀ p m, p < n → ks p ≠ .row x 1 m
section
variable {H L L' : AHeap} {n bk bw x : Nat} {ks : Nat → AV} {Kd : Nat → List Nat} {W : Nat → Nat}
theorem Kids.at_ (h : Kids H L n bk bw ks Kd W) {p b m : Nat} (hp : p < n) (e : ks p = .row b 1 m) : L.get b = some (.row 3 1 false (cellsN (Kd p))) ∧ m = (Kd p).length := by
  rcases h.held p hp with h1 | ⟨b', h1, h2⟩
  · rw [h1] at e; cases e
  · rw [h1] at e; cases e
    exact ⟨h2, cellsN_len _⟩
theorem Kids.apart (h : Kids H L n bk bw ks Kd W) (hx : L.get x = none) : Apart H n bk bw ks x where
  ak := by rintro rfl; rw [h.k] at hx; cases hx
  aw := by rintro rfl; rw [h.w] at hx; cases hx
  an := none_of_ext h.ext hx
  aks := fun p m hp e => by rw [(h.at_ hp e).1] at hx; cases hx
theorem Kids.apartO (h : Kids H L n bk bw ks Kd W) {o : AObj} (hx : L.get x = some o) (ho : ∀ T sz sn es, o ≠ .row T sz sn es) (hn : H.get x = none) : Apart H n bk bw ks x where
  ak := by rintro rfl; rw [h.k] at hx; cases hx; exact ho _ _ _ _ rfl
  aw := by rintro rfl; rw [h.w] at hx; cases hx; exact ho _ _ _ _ rfl
  an := hn
  aks := fun p m hp e => by rw [(h.at_ hp e).1] at hx; cases hx; exact ho _ _ _ _ rfl
theorem Kids.keep (h : Kids H L n bk bw ks Kd W) (hx : Apart H n bk bw ks x) (hL : ∀ c o, L.get c = some o → c ≠ x → L'.get c = some o) : Kids H L' n bk bw ks Kd W where
  ext := fun c o hc => hL c o (h.ext c o hc) (by rintro rfl; rw [hx.an] at hc; cases hc)
  k := hL _ _ h.k (Ne.symm hx.ak)
  w := hL _ _ h.w (Ne.symm hx.aw)
  nk := h.nk
  nw := h.nw
  held := fun p hp => by
    rcases h.held p hp with h1 | ⟨b, h1, h2⟩
    · exact .inl h1
    · exact .inr ⟨b, h1, hL _ _ h2 (by rintro rfl; exact hx.aks p _ hp h1)⟩
  fresh := h.fresh
  dist := h.dist
theorem Kids.more (h : Kids H L n bk bw ks Kd W) (hL : Ext L L') : Kids H L' n bk bw ks Kd W where
  ext := fun c o hc => hL c o (h.ext c o hc)
  k := hL _ _ h.k
  w := hL _ _ h.w
  nk := h.nk
  nw := h.nw
  held := fun p hp => by
    rcases h.held p hp with h1 | ⟨b, h1, h2⟩
    · exact .inl h1
    · exact .inr ⟨b, h1, hL _ _ h2⟩
  fresh := h.fresh
  dist := h.dist
theorem Kids.wset (h : Kids H L n bk bw ks Kd W) (i v : Nat) : Kids H (L.put bw (.row 2 1 false (((List.range n).map fun j => intCells (W j : Nat)).set i (intCells (v : Nat))))) n bk bw ks Kd (fun j => if j = i then v else W j) where
  ext := fun c o hc => by
    rw [AHeap.get_put, if_neg (by rintro rfl; rw [h.nw] at hc; cases hc)]
    exact h.ext c o hc
  k := by
    rw [AHeap.get_put, if_neg (by rintro e; have := h.k; rw [e, h.w] at this; cases this)]
    exact h.k
  w := by
    rw [AHeap.get_put_same, set_range]
    congr 3
    funext j
    by_cases e : j = i <;> simp [e]
  nk := h.nk
  nw := h.nw
  held := fun p hp => by
    rcases h.held p hp with h1 | ⟨b, h1, h2⟩
    · exact .inl h1
    · exact .inr ⟨b, h1, by rw [AHeap.get_put, if_neg (h.fresh p b _ hp h1).2]; exact h2⟩
  fresh := h.fresh
  dist := h.dist
theorem Kids.kset (h : Kids H L n bk bw ks Kd W) {p i b' : Nat} (hp : p < n) (hb : L'.get b' = some (.row 3 1 false (cellsN (Kd p ++ [i]))))
    (hL : ∀ c o, L.get c = some o → (∀ b, ks p = .row b 1 (cellsN (Kd p)).length → c ≠ b) → L'.get c = some o ∧ c ≠ b') :
    Kids H (L'.put bk (.row 38 1 false (((List.range n).map fun p => [ks p]).set p [.row b' 1 (cellsN (Kd p ++ [i])).length]))) n bk bw (fun q => if q = p then .row b' 1 (cellsN (Kd p ++ [i])).length else ks q) (fun q => if q = p then Kd p ++ [i] else Kd q) W ∧
    ∀ c o, L.get c = some o → (∀ T sz sn es, o ≠ .row T sz sn es) → (L'.put bk (.row 38 1 false (((List.range n).map fun p => [ks p]).set p [.row b' 1 (cellsN (Kd p ++ [i])).length]))).get c = some o := by
  have hk := h.k
  have hw := h.w
  have hkeep : ∀ c o, L.get c = some o → (∀ b m, ks p = .row b 1 m → c ≠ b) → L'.get c = some o ∧ c ≠ b' := fun c o hc hn => hL c o hc (fun b e => hn b _ e)
  have hbk : ∀ b m, ks p = .row b 1 m → bk ≠ b := fun b m e => by rintro rfl; rw [(h.at_ hp e).1] at hk; cases hk
  have hbw : ∀ b m, ks p = .row b 1 m → bw ≠ b := fun b m e => Ne.symm (h.fresh p b m hp e).2
  have kk := hkeep bk _ hk hbk
  have kw := hkeep bw _ hw hbw
  have hkw : bw ≠ bk := by rintro rfl; rw [hk] at hw; cases hw
  have hH : ∀ c o, H.get c = some o → L'.get c = some o ∧ c ≠ b' := fun c o hc => hkeep c o (h.ext c o hc) (fun b m e => by rintro rfl; rw [(h.fresh p _ m hp e).1] at hc; cases hc)
  have hb'n : H.get b' = none := by
    cases e : H.get b' with
    | none => rfl
    | some o => exact absurd rfl (hH b' o e).2
  have hoth : ∀ q b m, q < n → q ≠ p → ks q = .row b 1 m → L'.get b = some (.row 3 1 false (cellsN (Kd q))) ∧ b ≠ b' := fun q b m hq hne e =>
    hkeep b _ (h.at_ hq e).1 (fun b2 m2 e2 => by rintro rfl; exact hne (h.dist q p _ _ _ hq hp e e2))
  have hob : ∀ b es, L'.get b = some (.row 3 1 false es) → b ≠ bk := fun b es e => by rintro rfl; rw [kk.1] at e; cases e
  refine ⟨⟨fun c o hc => ?_, ?_, ?_, h.nk, h.nw, fun q hq => ?_, fun q b m hq e => ?_, fun q q' b m m' hq hq' e e' => ?_⟩, fun c o hc ho => ?_⟩
  · rw [AHeap.get_put, if_neg (by rintro rfl; rw [h.nk] at hc; cases hc)]
    exact (hH c o hc).1
  · rw [AHeap.get_put_same, set_range]
    congr 3
    funext j
    by_cases e : j = p <;> simp [e]
  · rw [AHeap.get_put, if_neg hkw]; exact kw.1
  · by_cases e : q = p
    · rw [if_pos e, if_pos e]
      exact .inr ⟨b', rfl, by rw [AHeap.get_put, if_neg (hob _ _ hb)]; exact hb⟩
    · rw [if_neg e, if_neg e]
      rcases h.held q hq with h1 | ⟨b, h1, h2⟩
      · exact .inl h1
      · have := (hoth q b _ hq e h1).1
        exact .inr ⟨b, h1, by rw [AHeap.get_put, if_neg (hob _ _ this)]; exact this⟩
  · skip
    by_cases e1 : q = p
    · rw [if_pos e1] at e; cases e
      exact ⟨hb'n, Ne.symm kw.2⟩
    · rw [if_neg e1] at e
      exact h.fresh q b m hq e
  · skip
    by_cases e1 : q = p
    · by_cases e2 : q' = p
      · rw [e1, e2]
      · rw [if_pos e1] at e; cases e
        rw [if_neg e2] at e'
        exact absurd rfl (hoth q' _ _ hq' e2 e').2
    · rw [if_neg e1] at e
      by_cases e2 : q' = p
      · rw [if_pos e2] at e'; cases e'
        exact absurd rfl (hoth q _ _ hq e1 e).2
      · rw [if_neg e2] at e'
        exact h.dist q q' b m m' hq hq' e e'
  · rw [AHeap.get_put, if_neg (by rintro rfl; rw [hk] at hc; cases hc; exact ho _ _ _ _ rfl)]
    exact (hkeep c o hc (fun b m e => by rintro rfl; rw [(h.at_ hp e).1] at hc; cases hc; exact ho _ _ _ _ rfl)).1
end
theorem kids_start {H L : AHeap} {n bk bw : Nat} (hE : Ext H L) (hk : L.get bk = none) {r : AHeap} (hr : r = L.put bk (.row 38 1 false (List.replicate ((n : Int).toNat) [.sl true []]))) (hw : r.get bw = none) :
    Kids H (r.put bw (.row 2 1 false (List.replicate ((n : Int).toNat) [.v (.int .i64 0)]))) n bk bw (fun _ => .sl true []) (fun _ => []) (fun _ => 0) where
  ext := fun c o hc => by
    subst hr
    exact get_fresh (get_fresh (hE c o hc) hk) hw
  k := by
    subst hr
    rw [get_fresh (AHeap.get_put_same _ _ _) hw, Int.toNat_natCast, range_const]
  w := by
    rw [AHeap.get_put_same, Int.toNat_natCast, range_const]
    rfl
  nk := none_of_ext hE hk
  nw := by
    subst hr
    exact none_of_ext hE (none_fresh hw)
  held := fun p _ => .inl rfl
  fresh := fun p b m _ e => by cases e
  dist := fun p p' b m m' _ _ e => by cases e
def tight (a : AV) : Bool := match a with | .sl _ _ => true | _ => false
theorem snapss_range (b : Nat) (es : List (List AV)) (f : Nat → AV) : ∀ l : List Nat, AV.snapss b 1 es (l.map fun p => [f p]) = l.map fun p => [AV.snap b 1 es (f p)]
  | [] => rfl
  | x :: l => by
    simp only [List.map_cons, AV.snapss, AV.snaps, snapss_range b es f l]
theorem snap_cellsN (b sz : Nat) (es : List (List AV)) : ∀ l : List Nat, AV.snapss b sz es (cellsN l) = cellsN l := fun l => snapss_map (fun _ => rfl) (ofN l)
section
variable {X : Ctx} {N : NR} {c : Code} {Q : Exit → AFr → AHeap → Prop} {fr0 : AFr} {H L : AHeap} {n bk bw : Nat} {ks : Nat → AV} {Kd : Nat → List Nat} {W : Nat → Nat}
theorem frozen (h : Kids H L n bk bw ks Kd W) (hfr : ∀ b sz es, AFr.snap b sz es fr0 = fr0) (t1 t2 : Nat)
    (k : AWp X N c Q ((t1, .sl false ((List.range n).map fun p => [.sl (tight (ks p)) (cellsN (Kd p))])) :: (t2, .sl false ((List.range n).map fun j => intCells (W j : Nat))) :: fr0) H) :
    AWp X N c Q ((t1, .row bk 1 n) :: (t2, .row bw 1 n) :: fr0) L := by
  have hkw : bk ≠ bw := by rintro rfl; have := h.k; rw [h.w] at this; cases this
  have main : ∀ d m, d + m = n → ∀ L : AHeap, L.get bk = some (.row 38 1 false ((List.range n).map fun p => [if p < m then .sl (tight (ks p)) (cellsN (Kd p)) else ks p])) → L.get bw = some (.row 2 1 false ((List.range n).map fun j => intCells (W j : Nat))) → Ext H L →
      (∀ p, m ≤ p → p < n → HeldAt 3 1 L (cellsN (Kd p)) (ks p)) → AWp X N c Q ((t1, .row bk 1 n) :: (t2, .row bw 1 n) :: fr0) L := by
    intro d
    induction d with
    | zero =>
      intro m hm L gk gw hE _
      have hmn : m = n := by omega
      subst hmn
      have e1 : ((List.range m).map fun p => [if p < m then AV.sl (tight (ks p)) (cellsN (Kd p)) else ks p]) = (List.range m).map fun p => [AV.sl (tight (ks p)) (cellsN (Kd p))] := by
        apply List.map_congr_left
        intro p hp
        rw [if_pos (List.mem_range.1 hp)]
      rw [e1] at gk
      refine AWp.snap gk ?_
      have gw2 : (L.put bk (.row 38 1 true ((List.range m).map fun p => [AV.sl (tight (ks p)) (cellsN (Kd p))]))).get bw = some (.row 2 1 false ((List.range m).map fun j => intCells (W j : Nat))) := by
        rw [AHeap.get_put, if_neg (Ne.symm hkw)]; exact gw
      refine AWp.snap gw2 ?_
      refine AWp.drop (K := H) ?_ ?_
      · intro c o hc
        rw [AHeap.get_put, if_neg (by rintro rfl; rw [h.nw] at hc; cases hc), AHeap.get_put, if_neg (by rintro rfl; rw [h.nk] at hc; cases hc)]
        exact hE c o hc
      · simp only [AFr.snap, AV.snap, hfr, if_neg (Ne.symm hkw), if_true, true_and, List.length_map, List.length_range, Nat.le_refl, and_self, reduceIte]
        have t1' : ((List.range m).map fun p => [AV.sl (tight (ks p)) (cellsN (Kd p))]).take m = (List.range m).map fun p => [AV.sl (tight (ks p)) (cellsN (Kd p))] := List.take_of_length_le (by simp)
        have t2' : ((List.range m).map fun j => intCells (W j : Nat)).take m = (List.range m).map fun j => intCells (W j : Nat) := List.take_of_length_le (by simp)
        rw [t1', t2', snapss_range bw _ (fun p => AV.sl (tight (ks p)) (cellsN (Kd p)))]
        simp only [AV.snap, snap_cellsN]
        exact k
    | succ d ih =>
      intro m hm L gk gw hE hH
      have hmn : m < n := by omega
      rcases hH m (Nat.le_refl _) hmn with e | ⟨b, e, gb⟩
      · refine ih (m + 1) (by omega) L ?_ gw hE (fun p h1 h2 => hH p (by omega) h2)
        rw [gk]
        congr 2
        apply List.map_congr_left
        intro p _
        by_cases h1 : p < m
        · rw [if_pos h1, if_pos (by omega)]
        · by_cases h2 : p = m
          · subst h2
            rw [if_neg h1, if_pos (by omega), e]; rfl
          · rw [if_neg h1, if_neg (by omega)]
      · have hbk : bk ≠ b := by rintro rfl; rw [gk] at gb; cases gb
        have hfb := h.fresh m b _ hmn e
        refine AWp.snapRow gb gk hbk ?_
        have hF : AFr.snap b 1 (cellsN (Kd m)) ((t1, .row bk 1 n) :: (t2, .row bw 1 n) :: fr0) = (t1, .row bk 1 n) :: (t2, .row bw 1 n) :: fr0 := by
          simp only [AFr.snap, AV.snap, hfr, if_neg hbk, if_neg (Ne.symm hfb.2)]
        rw [hF]
        refine ih (m + 1) (by omega) _ ?_ ?_ ?_ ?_
        · rw [AHeap.get_put_same, snapss_range]
          congr 2
          apply List.map_congr_left
          intro p hp
          have hpn := List.mem_range.1 hp
          by_cases h1 : p < m
          · rw [if_pos h1, if_pos (by omega)]
            simp only [AV.snap, snap_cellsN]
          · by_cases h2 : p = m
            · subst h2
              rw [if_neg h1, if_pos (by omega), e]
              simp [AV.snap, tight]
            · rw [if_neg h1, if_neg (by omega)]
              rcases hH p (by omega) hpn with e2 | ⟨b2, e2, gb2⟩
              · rw [e2]; simp only [AV.snap, snap_cellsN]
              · have : b2 ≠ b := by
                  rintro rfl
                  exact h2 (h.dist p m _ _ _ hpn hmn e2 e)
                rw [e2]; simp only [AV.snap, if_neg this]
        · rw [AHeap.get_put, if_neg (Ne.symm hkw), AHeap.get_put, if_neg (Ne.symm hfb.2)]; exact gw
        · intro c o hc
          rw [AHeap.get_put, if_neg (by rintro rfl; rw [h.nk] at hc; cases hc), AHeap.get_put, if_neg (by rintro rfl; rw [hfb.1] at hc; cases hc)]
          exact hE c o hc
        · intro p h1 h2
          rcases hH p (by omega) h2 with e2 | ⟨b2, e2, gb2⟩
          · exact .inl e2
          · have hb2 : b2 ≠ b := by
              rintro rfl
              have := h.dist p m _ _ _ h2 hmn e2 e
              omega
            have hb3 : b2 ≠ bk := by rintro rfl; rw [gk] at gb2; cases gb2
            exact .inr ⟨b2, e2, by rw [AHeap.get_put, if_neg hb3, AHeap.get_put, if_neg hb2]; exact gb2⟩
  refine main n 0 (by omega) L ?_ h.w h.ext (fun p _ hp => h.held p hp)
  rw [h.k]
  congr 2
end
end Go.Proofs.YtcpfgjfiacfmoaaGreatDoor.Rk

set_option linter.unusedSimpArgs false
set_option linter.unusedVariables false
set_option maxRecDepth 100000
namespace Go.Proofs.YtcpfgjfiacfmoaaGreatDoor
open Go Go.AL
attribute [local irreducible] AOps AWp SOps AE AT ACall AApp

theorem seen_put {r : List Int} {x : Int} {es : List (Int × AV)} (h : ∀ y, kfind y es = if y ∈ r then some (.v (.bool true)) else none) : ∀ y, kfind y (kput x (.v (.bool true)) es) = if y ∈ r ++ [x] then some (.v (.bool true)) else none := fun y => by
  rw [kfind_kput]
  by_cases e : x = y
  · subst e; simp
  · rw [if_neg e, h y]
    simp [Ne.symm e]
set_option maxHeartbeats 4000000 in
theorem linear_g (t1 : Bool) (P : List (List Int)) (R : List Int) (hP : P.length ≤ 1000) (hPP : ∀ r ∈ P, r.length ≤ 1000) (hR : R.length ≤ 1000) (H : AHeap) (O : Option (List Int)) (hO : refL P R = O) :
    ACall X 52 [.sl t1 (P.map rowCells), .sl false (R.map intCells)] H fun a L => ∃ L0 a1, a = .tup [a1, .v (.int .i64 (if O.isSome then 0 else 1))] ∧ Ext H L0 ∧ Gr 3 1 L0 ((O.getD []).map intCells) a1 L := by
  refine ACall_intro Tryz.func52 rfl (by kernel_rfl) (by rw [Tryz.ntmps52]; simp) ?_; rw [Tryz.ntmps52]; simp only [frame0, Nat.reduceAdd]
  refine AWp_seq_k (fun K hK => ?_); apply s_region
  apply s_box; decide; exact (by simp only [go_sem]; try rfl); exact (by simp only [go_sem]; try rfl); intro q hq
  have e1 := AHeap.get_put_same q (.box 73 [.sl false (R.map intCells)]) H
  have e3 := Ext.fresh hq (o := .box 73 [.sl false (R.map intCells)])
  generalize AHeap.put q (.box 73 [.sl false (R.map intCells)]) H = M at e1 e3 ⊢
  ((iterate 2 (apply s_q; decide; rfl; (simp only [go_sem]; rfl))); apply s_nil; simp only [AThen, ABlock]; refine hK _ _ ?_; clear hK K; refine AWp_seq_k (fun K hK => ?_); apply s_region; (iterate 3 (apply s_q; decide; rfl; (simp only [go_sem]; rfl))); apply s_nil; simp only [AThen, ABlock]; refine hK _ _ ?_; clear hK K; (iterate 2 (refine AWp_seq_k (fun K hK => ?_))); apply s_region)
  apply s_q; decide; rfl; exact (by simp only [go_sem, e1]; try rfl)
  ((iterate 3 (apply s_q; decide; rfl; (simp only [go_sem]; rfl))); apply s_nil; simp only [AThen, ABlock]; refine hK _ _ ?_; clear hK K)
  refine cond_split (by simp only [go_sem]; try rfl) (fun hc => ?_) (fun hc => ?_)
  · have hne : R.length ≠ P.length := by simp at hc; omega
    rw [refL, if_neg (fun h => hne h.1)] at hO
    subst hO
    (refine AWp_seq_k (fun K hK => ?_); apply s_region; (iterate 2 (apply s_q; decide; rfl; (simp only [go_sem]; rfl))); apply s_nil; simp only [AThen, ABlock]; refine hK _ _ ?_; clear hK K; apply AWp_ret; simp only [AThen, ABlock]; apply end_ret; rfl; simp only [AFr.get, reduceIte, Nat.reduceEqDiff])
    exact ⟨M, .sl true [], rfl, e3, .inl ⟨rfl, rfl, rfl⟩⟩
  have hRP : R.length = P.length := by simp at hc; omega
  clear hc
  obtain ⟨n, hn⟩ : ∃ n, P.length = n := ⟨_, rfl⟩
  rw [hn]
  (apply AWp_skip; simp only [AThen, ABlock]; refine hK _ _ ?_; clear hK K; refine AWp_seq_k (fun K hK => ?_); apply s_region; apply s_q; decide; rfl; (simp only [go_sem]; rfl))
  apply s_make; decide; exact el_32; exact (by simp only [go_sem]; try rfl); exact (by simp only [go_sem]; try rfl); exact zc_38; (refine ⟨by omega, by omega, by decide⟩); intro bk hbk
  (apply s_q; decide; rfl; (simp only [go_sem]; rfl); apply s_nil; simp only [AThen, ABlock]; refine hK _ _ ?_; clear hK K; refine AWp_seq_k (fun K hK => ?_); apply s_region; apply s_q; decide; rfl; (simp only [go_sem]; rfl))
  apply s_make; decide; exact el_38; exact (by simp only [go_sem]; try rfl); exact (by simp only [go_sem]; try rfl); exact zc_3; (refine ⟨by omega, by omega, by decide⟩); intro bw hbw
  have hKids : Kids H ((M.put bk (.row 38 1 false (List.replicate ((n : Int).toNat) [.sl true []]))).put bw (.row 3 1 false (List.replicate ((n : Int).toNat) [.v (.int .i64 0)]))) n bk bw (fun _ => .sl true []) (kidA P 0 []) (wantA P n 0 []) := kids_start e3 hbk rfl hbw
  have hqL : ((M.put bk (.row 38 1 false (List.replicate ((n : Int).toNat) [.sl true []]))).put bw (.row 3 1 false (List.replicate ((n : Int).toNat) [.v (.int .i64 0)]))).get q = some (.box 73 [.sl false (R.map intCells)]) := get_fresh (get_fresh e1 hbk) hbw
  generalize (M.put bk (.row 38 1 false (List.replicate ((n : Int).toNat) [.sl true []]))).put bw (.row 3 1 false (List.replicate ((n : Int).toNat) [.v (.int .i64 0)])) = L0 at hKids hqL ⊢
  (apply s_q; decide; rfl; (simp only [go_sem]; rfl); apply s_nil; simp only [AThen, ABlock]; refine hK _ _ ?_; clear hK K; (iterate 2 (refine AWp_seq_k (fun K hK => ?_))); apply s_region; (iterate 3 (apply s_q; decide; rfl; (simp only [go_sem]; rfl))); apply s_nil; simp only [AThen, ABlock]; refine hK _ _ ?_; clear hK K; apply AWp_block)
  refine AWp_loop_s (σ := Nat × AHeap × (Nat → AV)) [3, 6, 7, 8, 34, 35, 36] (fun s => [ptrTo q, .v (.int .i64 n), .row bk 1 n, .row bw 1 n, .sl t1 (P.map rowCells), .v (.int .i64 n), .v (.int .i64 s.1)]) (fun s => s.2.1) (fun s => n - s.1)
    (fun s => s.1 ≤ n ∧ Kids H s.2.1 n bk bw s.2.2 (kidA P s.1 []) (wantA P n s.1 []) ∧ s.2.1.get q = some (.box 73 [.sl false (R.map intCells)]) ∧ (P.take s.1).all (fun l => l.all (inR n)) = true) (0, L0, fun _ => .sl true []) ⟨Nat.zero_le _, hKids, hqL, rfl⟩ (by simp [getAll, AFr.get, hn]) rfl (fun s hs => ?_)
  obtain ⟨i, L, ks⟩ := s
  obtain ⟨hi, hKd, hqL, hall⟩ := hs
  clear hKids
  simp only [List.zip_cons_cons, List.zip_nil_right] at hi hKd hqL hall ⊢
  (refine AWp_seq_k (fun K hK => ?_); apply s_region; apply s_q; decide; rfl; (simp only [go_sem]; rfl); apply s_nil; simp only [AThen, ABlock]; refine hK _ _ ?_; clear hK K; refine AWp_seq_k (fun K hK => ?_))
  refine cond_split (by simp only [go_sem]; try rfl) (fun hd => ?_) (fun hd => ?_)
  · have hlt : i < n := by simpa using hd
    obtain ⟨r, hr⟩ := gete (l := P) (i := i) (by omega)
    have hgr := row_at hr
    have hrl := hPP r (List.mem_of_getElem? hr)
    (apply AWp_skip; simp only [AThen, ABlock]; refine hK _ _ ?_; clear hK K; refine AWp_seq_k (fun K hK => ?_); apply AWp_block; refine AWp_seq_k (fun K hK => ?_); apply s_region; (iterate 5 (apply s_q; decide; rfl; (simp only [go_sem, hgr]; rfl))); apply s_nil; simp only [AThen, ABlock]; refine hK _ _ ?_; clear hK K; refine AWp_seq_k (fun K hK => ?_); apply s_region; apply s_imap; decide; exact mp_76; intro b hb; apply s_q; decide; rfl; (simp only [go_sem, hgr]; rfl); apply s_nil; simp only [AThen, ABlock]; refine hK _ _ ?_; clear hK K; refine AWp_seq_k (fun K hK => ?_); apply s_region; (iterate 3 (apply s_q; decide; rfl; (simp only [go_sem, hgr]; rfl))); apply s_nil; simp only [AThen, ABlock]; refine hK _ _ ?_; clear hK K; apply AWp_block)
    obtain ⟨sb, hsb⟩ : ∃ b3, b3 = b := ⟨_, rfl⟩
    have hb3 := hb
    rw [← hsb] at hb3 ⊢
    clear hb hsb b
    have hHsb := none_of_ext hKd.ext hb3
    have hs1 := AHeap.get_put_same sb (.imap .i64 []) L
    have hs2 := get_fresh hqL hb3 (x := .imap .i64 [])
    have hs3 := hKd.more (Ext.fresh hb3 (o := .imap .i64 []))
    generalize L.put sb (.imap .i64 []) = L1 at hs1 hs2 hs3 ⊢
    refine AWp_loop_s (σ := Nat × AHeap × (Nat → AV) × List (Int × AV)) [3, 6, 7, 8, 9, 11, 34, 35, 36, 42, 43, 44] (fun s => [ptrTo q, .v (.int .i64 n), .row bk 1 n, .row bw 1 n, .v (.int .i64 i), .v (.map (some sb)), .sl t1 (P.map rowCells), .v (.int .i64 n), .v (.int .i64 i), .sl false (r.map intCells), .v (.int .i64 (r.length : Nat)), .v (.int .i64 s.1)]) (fun s => s.2.1) (fun s => r.length - s.1)
      (fun s => s.1 ≤ r.length ∧ Kids H s.2.1 n bk bw s.2.2.1 (kidA P i (r.take s.1)) (wantA P n i (r.take s.1)) ∧ s.2.1.get q = some (.box 73 [.sl false (R.map intCells)]) ∧ s.2.1.get sb = some (.imap .i64 s.2.2.2) ∧ (∀ y, kfind y s.2.2.2 = if y ∈ r.take s.1 then some (.v (.bool true)) else none) ∧ (r.take s.1).all (inR n) = true)
      (0, L1, ks, []) ⟨Nat.zero_le _, hs3, hs2, hs1, fun y => by simp [kfind], rfl⟩ rfl rfl (fun s hs => ?_)
    obtain ⟨k, L2, ks2, es⟩ := s
    obtain ⟨hk, hKd2, hqL2, hsL2, hes, hrin⟩ := hs
    clear hKd hqL hs1 hs2 hs3
    simp only [List.zip_cons_cons, List.zip_nil_right] at hk hKd2 hqL2 hsL2 hes hrin ⊢
    (refine AWp_seq_k (fun K hK => ?_); apply s_region; apply s_q; decide; rfl; (simp only [go_sem]; rfl); apply s_nil; simp only [AThen, ABlock]; refine hK _ _ ?_; clear hK K; refine AWp_seq_k (fun K hK => ?_))
    refine cond_split (by simp only [go_sem]; try rfl) (fun he => ?_) (fun he => ?_)
    · have hkl : k < r.length := by simpa using he
      obtain ⟨x, hx⟩ := gete hkl
      have hgx := int_at hx
      (apply AWp_skip; simp only [AThen, ABlock]; refine hK _ _ ?_; clear hK K; refine AWp_seq_k (fun K hK => ?_); apply AWp_block; refine AWp_seq_k (fun K hK => ?_); apply s_region; (iterate 3 (apply s_q; decide; rfl; (simp only [go_sem, hgx]; rfl))); apply s_nil; simp only [AThen, ABlock]; refine hK _ _ ?_; clear hK K; (iterate 2 (refine AWp_seq_k (fun K hK => ?_))); apply s_region; (iterate 3 (apply s_q; decide; rfl; (simp only [go_sem, hgx]; rfl))); (iterate 2 (apply s_spec; decide; rfl; rfl; (simp only [go_sem, hgx]; rfl); (simp only [go_sem, hgx]; rfl); (simp only [go_sem, hgx]; rfl); (simp only [go_sem, hgx]; rfl); trivial)); apply s_spec; decide; rfl; rfl; (simp only [go_sem, hgx]; rfl); (simp only [go_sem, hgx]; rfl); (simp only [go_sem, hgx]; rfl); (simp only [go_sem, hgx]; rfl); simp [condsOk]; apply s_pick; decide; (simp only [go_sem, hgx]; rfl); (simp only [go_sem, hgx]; rfl); (simp only [go_sem, hgx]; rfl); (simp only [go_sem, hgx]; rfl); (simp only [go_sem, hgx]; rfl); (simp only [go_sem, hgx]; rfl); trivial; trivial; simp [condsOk]; apply s_nil; simp only [AThen, ABlock]; refine hK _ _ ?_; clear hK K)
      refine cond_split (by simp only [go_sem]; try rfl) (fun hz => ?_) (fun hz => ?_)
      · have hbad : inR P.length x = false := by
          rw [inR, hn]; revert hz; simp; omega
        have hno : refL P R = none := by
          rw [refL, if_neg]
          rintro ⟨_, h2⟩
          rw [not_all hr (not_all hx hbad)] at h2
          cases h2
        rw [hno] at hO
        subst hO
        (refine AWp_seq_k (fun K hK => ?_); apply s_region; (iterate 2 (apply s_q; decide; rfl; (simp only [go_sem]; rfl))); apply s_nil; simp only [AThen, ABlock]; refine hK _ _ ?_; clear hK K; apply AWp_ret; simp only [AThen, ABlock]; apply end_ret; rfl; simp only [AFr.get, reduceIte, Nat.reduceEqDiff])
        exact ⟨L2, .sl true [], rfl, hKd2.ext, .inl ⟨rfl, rfl, rfl⟩⟩
      · have hgood : inR n x = true := by
          rw [inR]; revert hz; simp
        obtain ⟨xn, rfl⟩ : ∃ xn : Nat, x = xn := ⟨x.toNat, by simp [inR] at hgood; omega⟩
        have hxn : xn < n := by simp [inR] at hgood; exact hgood
        have hseen := hes xn
        by_cases hin : (xn : Int) ∈ r.take k
        · rw [if_pos hin] at hseen
          (apply AWp_skip; simp only [AThen, ABlock]; refine hK _ _ ?_; clear hK K; refine AWp_seq_k (fun K hK => ?_); apply s_region; (iterate 4 (apply s_q; decide; rfl; (simp only [go_sem, hsL2, hseen]; rfl))); apply s_nil; simp only [AThen, ABlock]; refine hK _ _ ?_; clear hK K)
          refine cond_split (by simp only [go_sem]; try rfl) (fun hy => ?_) (fun hy => ?_)
          · cases hy
          (apply AWp_skip; simp only [AThen, ABlock]; refine hK _ _ ?_; clear hK K; apply s_region; (iterate 2 (apply s_q; decide; rfl; (simp only [go_sem]; rfl))); apply s_nil; simp only [AThen, ABlock])
          refine ⟨(k + 1, L2, ks2, es), by simp only; omega, ⟨by simp only; omega, ?_, hqL2, hsL2, fun y => ?_, ?_⟩, ?_, by trivial⟩
          · simp only
            rw [take_succ hx, kidA_again hin, wantA_again hin]; exact hKd2
          · simp only
            rw [hes y, take_succ hx]
            by_cases e : y = (xn : Int)
            · subst e; simp [hin]
            · simp [e]
          · simp only
            rw [all_take hx hrin]; exact hgood
          · simp only [getAll, List.map_cons, List.map_nil, AFr.get, reduceIte, Nat.reduceEqDiff]
            rw [wrapS hkl (by omega)]; try rfl
        · rw [if_neg hin] at hseen
          (apply AWp_skip; simp only [AThen, ABlock]; refine hK _ _ ?_; clear hK K; refine AWp_seq_k (fun K hK => ?_); apply s_region; (iterate 4 (apply s_q; decide; rfl; (simp only [go_sem, hsL2, hseen]; rfl))); apply s_nil; simp only [AThen, ABlock]; refine hK _ _ ?_; clear hK K)
          refine cond_split (by simp only [go_sem]; try rfl) (fun hy => ?_) (fun hy => ?_)
          rotate_left
          · cases hy
          refine AWp_seq_k (fun K hK => ?_); apply s_region
          ((iterate 2 (apply s_q; decide; rfl; (simp only [go_sem, hsL2]; rfl))); apply s_mapput; (simp only [go_sem, hsL2]; rfl); (simp only [go_sem, hsL2]; rfl); (simp only [go_sem, hsL2]; rfl); (simp only [go_sem, hsL2]; rfl))
          apply s_nil; simp only [AThen, ABlock]; refine hK _ _ ?_; clear hK K
          have a1 := hKd2.keep (L' := L2.put sb (.imap .i64 (kput (xn : Int) (.v (.bool true)) es))) (hKd2.apartO hsL2 (by intro _ _ _ _ h; cases h) hHsb) (fun c o hc hne => by rw [AHeap.get_put, if_neg hne]; exact hc)
          have a2 := get_other (x := .imap .i64 (kput (xn : Int) (.v (.bool true)) es)) hqL2 (show q ≠ sb by rintro rfl; rw [hsL2] at hqL2; cases hqL2)
          have a3 := AHeap.get_put_same sb (.imap .i64 (kput (xn : Int) (.v (.bool true)) es)) L2
          generalize AHeap.put sb (.imap .i64 (kput (xn : Int) (.v (.bool true)) es)) L2 = L3 at a1 a2 a3 ⊢
          have a4 := a1.k
          have hgk := get_range (fun p => [ks2 p]) hxn
          have hlt3 : ((xn : Int) < (n : Int)) = True := by simp; omega
          (refine AWp_seq_k (fun K hK => ?_); apply s_region; (iterate 7 (apply s_q; decide; rfl; (simp only [go_sem, a4, hgk, hlt3]; rfl))); apply s_lit; decide; exact el_38; (simp only [go_sem, a4, hgk, hlt3]; rfl); (simp only [go_sem, a4, hgk, hlt3]; rfl); decide)
          have hkl1 := kidA_len P i (r.take k) xn
          apply s_append; decide; exact (by simp only [go_sem]; try rfl); exact (by simp only [go_sem]; try rfl); apply AApp_push el_38 (a1.held xn hxn) (cellsN_one _) (nes := [[.v (.int .i64 (i : Int))]]) (fun M => src_sl tk_38 (fun e he => by simp at he; subst he; exact ⟨rfl, rfl⟩)) (by simp) (by rw [cellsN_len]; simp; omega) (by rw [cellsN_len]; simp; omega); intro nb L4 k1 k2
          rw [cellsN_app] at k1 ⊢
          obtain ⟨b1, b2⟩ := a1.kset hxn k1 k2
          have b3 := b2 q _ a2 (by intro _ _ _ _ h; cases h)
          have b4 := b2 sb _ a3 (by intro _ _ _ _ h; cases h)
          have b5 : L4.get bk = some (.row 38 1 false ((List.range n).map fun p => [ks2 p])) := (k2 bk _ a4 (fun b e => by rintro rfl; rw [(a1.at_ hxn e).1] at a4; cases a4)).1
          clear b2 k2 k1 a1 a2 a3 a4
          (apply s_q; decide; rfl; (simp only [go_sem, b5, hgk, hlt3]; rfl); apply s_store; (simp only [go_sem, b5, hgk, hlt3]; rfl); (simp only [go_sem, b5, hgk, hlt3]; rfl); (simp only [go_sem, b5, hgk, hlt3]; rfl))
          apply s_nil; simp only [AThen, ABlock]; refine hK _ _ ?_; clear hK K
          generalize AHeap.put bk (.row 38 1 false (((List.range n).map fun p => [ks2 p]).set xn [.row nb 1 (cellsN (kidA P i (r.take k) xn ++ [i])).length])) L4 = L5 at b1 b3 b4 ⊢
          have b6 := b1.w
          have hgw : ((List.range n).map fun j => intCells (wantA P n i (r.take k) j : Nat))[i]? = some [.v (.int .i64 (wantA P n i (r.take k) i : Nat))] := get_range _ hlt
          have hlt4 : ((i : Int) < (n : Int)) = True := by simp; omega
          have hwl : wantA P n i (r.take k) i ≤ 1000 := by
            unfold wantA; rw [if_neg (Nat.lt_irrefl _), if_pos rfl]; exact Nat.le_trans (cnt_le _ _ _) (by omega)
          have e5 : IntKind.i64.wrap ((wantA P n i (r.take k) i : Int) + 1) = ((wantA P n i (r.take k) i + 1 : Nat) : Int) := by rw [wrap64 (by omega)]; omega
          (apply s_region; (iterate 6 (apply s_q; decide; rfl; (simp only [go_sem, b6, hgw, hlt4, e5]; rfl))); apply s_store; (simp only [go_sem, b6, hgw, hlt4, e5]; rfl); (simp only [go_sem, b6, hgw, hlt4, e5]; rfl); (simp only [go_sem, b6, hgw, hlt4, e5]; rfl); apply s_nil; simp only [AThen, ABlock]; refine hK _ _ ?_; clear hK K; apply s_region; (iterate 2 (apply s_q; decide; rfl; (simp only [go_sem, b6, hgw, hlt4, e5]; rfl))); apply s_nil; simp only [AThen, ABlock])
          have b7 := b1.wset i (wantA P n i (r.take k) i + 1)
          have c3 := get_other (x := .row 3 1 false (((List.range n).map fun j => intCells (wantA P n i (r.take k) j : Nat)).set i (intCells ((wantA P n i (r.take k) i + 1 : Nat) : Int)))) b3 (show q ≠ bw by rintro rfl; rw [b6] at b3; cases b3)
          have c4 := get_other (x := .row 3 1 false (((List.range n).map fun j => intCells (wantA P n i (r.take k) j : Nat)).set i (intCells ((wantA P n i (r.take k) i + 1 : Nat) : Int)))) b4 (show sb ≠ bw by rintro rfl; rw [b6] at b4; cases b4)
          refine ⟨(k + 1, AHeap.put bw (.row 3 1 false (((List.range n).map fun j => intCells (wantA P n i (r.take k) j : Nat)).set i (intCells ((wantA P n i (r.take k) i + 1 : Nat) : Int)))) L5, fun p => if p = xn then .row nb 1 (cellsN (kidA P i (r.take k) xn ++ [i])).length else ks2 p, kput (xn : Int) (.v (.bool true)) es), by simp only; omega, ⟨by simp only; omega, ?_, c3, c4, fun y => ?_, ?_⟩, ?_, by rfl⟩
          · simp only
            rw [take_succ hx, kidA_push hin, wantA_push hxn hin]; exact b7
          · simp only
            rw [take_succ hx]; exact seen_put hes y
          · simp only
            rw [all_take hx hrin]; exact hgood
          · simp only [getAll, List.map_cons, List.map_nil, AFr.get, reduceIte, Nat.reduceEqDiff]
            rw [wrapS hkl (by omega)]; try rfl
    · have hge : r.length ≤ k := by simpa using he
      have hall2 : r.all (inR n) = true := by rw [← hrin, List.take_of_length_le hge]
      (apply AWp_exit; simp only [AThen, ABlock, reduceIte, Nat.reduceEqDiff]; clear hK K; refine hK _ _ ?_; clear hK K; apply s_region; (iterate 2 (apply s_q; decide; rfl; (simp only [go_sem]; rfl))); apply s_nil; simp only [AThen, ABlock])
      refine ⟨(i + 1, L2, ks2), by simp only; omega, ⟨by simp only; omega, ?_, hqL2, ?_⟩, ?_, by trivial⟩
      · simp only
        rw [List.take_of_length_le hge] at hKd2
        rw [kidA_next hr, wantA_next hr]; exact hKd2
      · simp only
        rw [all_take hr hall]; exact hall2
      · simp only [getAll, List.map_cons, List.map_nil, AFr.get, reduceIte, Nat.reduceEqDiff]
        rw [wrapS hlt (by omega)]; try rfl
  · have hge : n = i := by simp at hd; omega
    subst hge
    rw [← hn, List.take_length] at hall
    rw [refL, if_pos ⟨hRP, hall⟩] at hO
    apply AWp_exit; simp only [AThen, ABlock, reduceIte, Nat.reduceEqDiff]; clear hK K; refine hK _ _ ?_; clear hK K
    have hqN : H.get q = none := hq
    rw [wantA_all hn, kidA_all] at hKd
    refine AWp_cut [3, 6, 7, 8] (vs := [ptrTo q, .v (.int .i64 n), .row bk 1 n, .row bw 1 n]) rfl ?_
    simp only [List.zip_cons_cons, List.zip_nil_right]
    refine AWp.freeze (t := 3) hqL rfl (by decide) ?_
    have d1 : Kids H (L.del q) n bk bw ks (kidsOf P n) (fun j => cnt n (P.getD j []) []) := hKd.keep (hKd.apartO hqL (by intro _ _ _ _ h; cases h) hqN) (fun c o hc hne => by rw [AHeap.get_del, if_neg hne]; exact hc)
    clear hKd hqL
    generalize AHeap.del q L = L1 at d1 ⊢
    (refine AWp_seq_k (fun K hK => ?_); apply s_region; (iterate 2 (apply s_q; decide; rfl; (simp only [go_sem]; rfl))); apply s_nil; simp only [AThen, ABlock]; refine hK _ _ ?_; clear hK K; refine AWp_seq_k (fun K hK => ?_); apply s_region; (iterate 2 (apply s_q; decide; rfl; (simp only [go_sem]; rfl))); apply s_nil; simp only [AThen, ABlock]; refine hK _ _ ?_; clear hK K; (iterate 2 (refine AWp_seq_k (fun K hK => ?_))); apply s_region; (iterate 3 (apply s_q; decide; rfl; (simp only [go_sem]; rfl))); apply s_nil; simp only [AThen, ABlock]; refine hK _ _ ?_; clear hK K; apply AWp_block)
    refine AWp_loop_s (σ := Nat × AHeap × AV) [6, 7, 8, 14, 15, 16, 80, 81, 82] (fun s => [.v (.int .i64 n), .row bk 1 n, .row bw 1 n, .fn (.func 86) [] [.fp [.sl false (R.map intCells)]], s.2.2, .sl true [], .row bw 1 n, .v (.int .i64 n), .v (.int .i64 s.1)]) (fun s => s.2.1) (fun s => n - s.1)
      (fun s => s.1 ≤ n ∧ Kids H s.2.1 n bk bw ks (kidsOf P n) (fun j => cnt n (P.getD j []) []) ∧ Own H s.2.1 n bk bw ks ((List.range s.1).filter fun j => decide (cnt n (P.getD j []) [] = 0)) s.2.2) (0, L1, .sl true []) ⟨Nat.zero_le _, d1, .inl ⟨rfl, rfl⟩⟩ rfl rfl (fun s hs => ?_)
    obtain ⟨i, L, aR⟩ := s
    obtain ⟨hi, hKd, hOwn⟩ := hs
    clear d1
    simp only [List.zip_cons_cons, List.zip_nil_right] at hi hKd hOwn ⊢
    (refine AWp_seq_k (fun K hK => ?_); apply s_region; apply s_q; decide; rfl; (simp only [go_sem]; rfl); apply s_nil; simp only [AThen, ABlock]; refine hK _ _ ?_; clear hK K; refine AWp_seq_k (fun K hK => ?_))
    refine cond_split (by simp only [go_sem]; try rfl) (fun hd => ?_) (fun hd => ?_)
    · have hlt : i < n := by simpa using hd
      have hgw : ((List.range n).map fun j => intCells (cnt n (P.getD j []) [] : Nat))[i]? = some [.v (.int .i64 (cnt n (P.getD i []) [] : Nat))] := get_range _ hlt
      have hlt4 : ((i : Int) < (n : Int)) = True := by simp; omega
      have hw := hKd.w
      (apply AWp_skip; simp only [AThen, ABlock]; refine hK _ _ ?_; clear hK K; refine AWp_seq_k (fun K hK => ?_); apply AWp_block; refine AWp_seq_k (fun K hK => ?_); apply s_region; (iterate 5 (apply s_q; decide; rfl; (simp only [go_sem, hw, hgw, hlt4]; rfl))); apply s_nil; simp only [AThen, ABlock]; refine hK _ _ ?_; clear hK K; refine AWp_seq_k (fun K hK => ?_); apply s_region; (iterate 2 (apply s_q; decide; rfl; (simp only [go_sem, hw, hgw, hlt4]; rfl))); apply s_nil; simp only [AThen, ABlock]; refine hK _ _ ?_; clear hK K)
      refine cond_split (by simp only [go_sem]; try rfl) (fun hz => ?_) (fun hz => ?_)
      · have hz : cnt n (P.getD i []) [] = 0 := by simpa using hz
        have hfl : ((List.range i).filter fun j => decide (cnt n (P.getD j []) [] = 0)).length ≤ 1000 := Nat.le_trans (List.length_filter_le _ _) (by simp; omega)
        (apply s_region; (iterate 2 (apply s_q; decide; rfl; (simp only [go_sem]; rfl))); apply s_lit; decide; exact el_38; (simp only [go_sem]; rfl); (simp only [go_sem]; rfl); decide)
        apply s_append; decide; exact (by simp only [go_sem]; try rfl); exact (by simp only [go_sem]; try rfl); apply AApp_push el_38 hOwn.held (cellsN_one _) (nes := [[.v (.int .i64 (i : Int))]]) (fun M => src_sl tk_38 (fun e he => by simp at he; subst he; exact ⟨rfl, rfl⟩)) (by simp) (by rw [cellsN_len, List.length_singleton]; omega) (by rw [cellsN_len, List.length_singleton]; omega); intro nb L4 k1 k2
        rw [cellsN_app] at k1 ⊢
        obtain ⟨b1, b2, b3⟩ := hKd.push hOwn k1 k2
        (apply s_q; decide; rfl; (simp only [go_sem]; rfl); apply s_nil; simp only [AThen, ABlock]; refine hK _ _ ?_; clear hK K; apply s_region; (iterate 2 (apply s_q; decide; rfl; (simp only [go_sem]; rfl))); apply s_nil; simp only [AThen, ABlock])
        refine ⟨(i + 1, L4, .row nb 1 (cellsN (((List.range i).filter fun j => decide (cnt n (P.getD j []) [] = 0)) ++ [i])).length), by simp only; omega, ⟨by simp only; omega, b1, ?_⟩, ?_, by rfl⟩
        · simp only
          rw [List.range_succ, List.filter_append, List.filter_cons, if_pos (by simpa using hz)]
          exact b2
        · simp only [getAll, List.map_cons, List.map_nil, AFr.get, reduceIte, Nat.reduceEqDiff]
          rw [wrapS hlt (by omega)]; try rfl
      · have hz : ¬ cnt n (P.getD i []) [] = 0 := by simpa using hz
        (apply AWp_skip; simp only [AThen, ABlock]; refine hK _ _ ?_; clear hK K; apply s_region; (iterate 2 (apply s_q; decide; rfl; (simp only [go_sem]; rfl))); apply s_nil; simp only [AThen, ABlock])
        refine ⟨(i + 1, L, aR), by simp only; omega, ⟨by simp only; omega, hKd, ?_⟩, ?_, by rfl⟩
        · simp only
          rw [List.range_succ, List.filter_append, List.filter_cons, if_neg (by simpa using hz), List.filter_nil, List.append_nil]
          exact hOwn
        · simp only [getAll, List.map_cons, List.map_nil, AFr.get, reduceIte, Nat.reduceEqDiff]
          rw [wrapS hlt (by omega)]; try rfl
    · have hge : n = i := by simp at hd; omega
      rw [← hge] at hOwn
      obtain ⟨rd0, hrd0⟩ : ∃ rd0, ((List.range n).filter fun j => decide (cnt n (P.getD j []) [] = 0)) = rd0 := ⟨_, rfl⟩
      have hAll : AllIn P n := fun j x hx => by
        rw [hn, List.all_eq_true] at hall
        rw [List.getD_eq_getElem?_getD] at hx
        cases hj : P[j]? with
        | none => rw [hj] at hx; cases hx
        | some r =>
          rw [hj] at hx
          have := hall r (List.mem_of_getElem? hj)
          rw [List.all_eq_true] at this
          exact this x hx
      have hmem0 : ∀ i, i ∈ rd0 ↔ i < n ∧ may P [] i := fun i => by
        rw [← hrd0, List.mem_filter, List.mem_range, decide_eq_true_iff, cnt_zero (hAll i)]
        exact ⟨fun h => ⟨h.1, by simp, h.2⟩, fun h => ⟨h.1, h.2.2⟩⟩
      have hnd0 : rd0.Nodup := by rw [← hrd0]; exact List.nodup_range.filter _
      have hl0 : rd0.length ≤ 1000 := by
        rw [← hrd0]; exact Nat.le_trans (List.length_filter_le _ _) (by rw [List.length_range]; omega)
      rw [hrd0] at hOwn
      apply AWp_exit; simp only [AThen, ABlock, reduceIte, Nat.reduceEqDiff]; clear hK K; refine hK _ _ ?_; clear hK K
      refine AWp_cut [6, 7, 8, 14, 15, 16] (vs := [.v (.int .i64 n), .row bk 1 n, .row bw 1 n, .fn (.func 86) [] [.fp [.sl false (R.map intCells)]], aR, .sl true []]) rfl ?_
      simp only [List.zip_cons_cons, List.zip_nil_right]
      (refine AWp_seq_k (fun K hK => ?_); apply s_region; (iterate 2 (apply s_q; decide; rfl; (simp only [go_sem]; rfl))))
      apply s_call; decide; exact (by simp only [go_sem]; try rfl); exact (by simp only [go_sem]; try rfl)
      refine ACall_sortB (k := 1) (mkA := fun bs => bs.headD .top) (c := fun i j => lessI R (rd0.getD i 0) (rd0.getD j 0)) sorts62 (by kernel_rfl) (by kernel_rfl) mk_one hOwn.sortB (by rw [cellsN_len]; omega) (fun x hx => ?_) (sort_swo R rd0 _) (fun i j x y hx hy K2 hK2 => ?_) (fun p L5 hp1 hp2 hp3 => ?_)
      · obtain ⟨d, _, rfl⟩ := List.mem_map.1 hx; rfl
      · obtain ⟨a, ha⟩ := gete (l := rd0) (i := i) (by have := (List.getElem?_eq_some_iff.1 hx).1; rwa [cellsN_len] at this)
        obtain ⟨b, hb⟩ := gete (l := rd0) (i := j) (by have := (List.getElem?_eq_some_iff.1 hy).1; rwa [cellsN_len] at this)
        have hxa : x = [.v (.int .i64 (a : Int))] := by
          rw [cellsN, ofN, List.map_map, List.getElem?_map, ha] at hx; cases hx; rfl
        have hyb : y = [.v (.int .i64 (b : Int))] := by
          rw [cellsN, ofN, List.map_map, List.getElem?_map, hb] at hy; cases hy; rfl
        subst hxa; subst hyb
        have hai := (hmem0 a).1 (List.mem_of_getElem? ha)
        have hbi := (hmem0 b).1 (List.mem_of_getElem? hb)
        refine lessd_c R a b (by omega) (by omega) _ K2 ?_
        rw [List.getD_eq_getElem?_getD, ha, List.getD_eq_getElem?_getD, hb] at hK2
        exact hK2
      obtain ⟨rd1, hrd1⟩ : ∃ rd1, (p.map fun i => rd0.getD i 0) = rd1 := ⟨_, rfl⟩
      have hRd := sorted_rd (P := P) (R := R) hmem0 hnd0 hp1 hp2
      have hcl1 := perm_cells hp1
      have hlen1 : rd1.length = rd0.length := by
        have := hp1.length_eq
        rw [← hrd1, List.length_map, this, List.length_range, cellsN_len]
      rw [hrd1] at hRd hcl1
      have f1 : Kids H L5 n bk bw ks (kidsOf P n) (fun j => cnt n (P.getD j []) []) ∧ Own H L5 n bk bw ks rd1 aR := by
        rcases hOwn with ⟨rfl, h0⟩ | ⟨b, rfl, h2, h3⟩
        · rcases hp3 with ⟨_, _, rfl⟩ | ⟨b, h1, _⟩
          · refine ⟨hKd, .inl ⟨rfl, ?_⟩⟩
            rw [h0] at hlen1
            exact List.eq_nil_of_length_eq_zero hlen1
          · cases h1
        · rcases hp3 with ⟨h1, _⟩ | ⟨b2, h1, _, rfl⟩
          · cases h1
          · rw [cellsN_len] at h1
            cases h1
            rw [hcl1]
            exact ⟨hKd.keep h3 (fun c o hc hne => by rw [AHeap.get_put, if_neg hne]; exact hc), .inr ⟨b, by rw [hlen1], AHeap.get_put_same _ _ _, h3⟩⟩
      obtain ⟨f1, f2⟩ := f1
      clear hp3 hKd hOwn
      apply s_nil; simp only [AThen, ABlock]; refine hK _ _ ?_; clear hK K
      refine AWp_due (t := 15) (by simp only [AFr.get, reduceIte, Nat.reduceEqDiff]) f2 (fun aR' hDue => ?_)
      refine AWp_cut [6, 7, 8, 14, 15, 16] (vs := [.v (.int .i64 n), .row bk 1 n, .row bw 1 n, .fn (.func 86) [] [.fp [.sl false (R.map intCells)]], aR', .sl true []]) (by simp only [getAll, List.map_cons, List.map_nil, AFr.get, reduceIte, Nat.reduceEqDiff]) ?_
      simp only [List.zip_cons_cons, List.zip_nil_right]
      clear f2
      (refine AWp_seq_k (fun K hK => ?_); apply AWp_block)
      have hin1 : ∀ j ∈ ([] : List Nat), rdy P [] j = true := fun j hj => by cases hj
      have hin2 : ([] : List Nat).length + rem n [] = n := by rw [rem_nil]; simp
      have hin3 : refF P R n (n - ([] : List Nat).length) (ofN []) = O := by rw [← hO, hn]; rfl
      refine AWp_loop_s (σ := List Nat × List Nat × AV × AV × AHeap × (Nat → Nat)) [6, 7, 8, 14, 15, 16] (fun s => [.v (.int .i64 n), .row bk 1 n, .row bw 1 n, .fn (.func 86) [] [.fp [.sl false (R.map intCells)]], s.2.2.2.1, s.2.2.1]) (fun s => s.2.2.2.2.1) (fun s => rem n s.1)
        (fun s => Kids H s.2.2.2.2.1 n bk bw ks (kidsOf P n) s.2.2.2.2.2 ∧ Own H s.2.2.2.2.1 n bk bw ks s.1 s.2.2.1 ∧ DueN H s.2.2.2.2.1 n bk bw ks s.2.2.1 s.2.1 s.2.2.2.1 ∧ RdOk P R n s.1 s.2.1 ∧ (∀ j, j < n → s.2.2.2.2.2 j = cnt n (P.getD j []) s.1) ∧
          (∀ j ∈ s.1, rdy P s.1 j = true) ∧ s.1.length + rem n s.1 = n ∧ refF P R n (n - s.1.length) (ofN s.1) = O)
        ([], rd1, .sl true [], aR', L5, fun j => cnt n (P.getD j []) []) ⟨f1, .inl ⟨rfl, rfl⟩, hDue, hRd, fun _ _ => rfl, hin1, hin2, hin3⟩ rfl rfl (fun s hs => ?_)
      obtain ⟨told, rd, aO, aR2, L, W⟩ := s
      obtain ⟨hKd, hOwn, hD, hOk, hW, hcl, hrem, hF⟩ := hs
      simp only [List.zip_cons_cons, List.zip_nil_right] at hKd hOwn hD hOk hW hcl hrem hF ⊢
      clear f1 hDue hRd
      have hlo := hD.len L
      ((iterate 2 (refine AWp_seq_k (fun K hK => ?_))); apply s_region; apply s_q; decide; rfl; (simp only [go_sem]; rfl); (apply s_q; decide; rfl; (simp only [go_sem]; exact hlo)); apply s_q; decide; rfl; (simp only [go_sem]; rfl); apply s_nil; simp only [AThen, ABlock]; refine hK _ _ ?_; clear hK K)
      refine cond_split (by simp only [go_sem]; try rfl) (fun hw => ?_) (fun hw => ?_)
      · obtain ⟨i, rd, rfl⟩ : ∃ i rd', rd = i :: rd' := by
          cases rd with
          | nil => simp at hw
          | cons i rd => exact ⟨i, rd, rfl⟩
        have hmay := (hOk.mem i).1 (by simp)
        have hin := hmay.1
        have hit := hmay.2.1
        have hlt := rem_step hin hit
        clear hlo
        rcases hD with ⟨_, h0⟩ | hD
        · cases h0
        have hg0 := (hD.arr.at_ (i := 0) (a := (i : Int)) rfl)
        obtain ⟨pp, hpp, hpc⟩ := hg0
        (apply AWp_skip; simp only [AThen, ABlock]; refine hK _ _ ?_; clear hK K; apply AWp_block; refine AWp_seq_k (fun K hK => ?_); apply s_region; apply s_q; decide; rfl; (simp only [go_sem]; rfl))
        apply s_q; decide; rfl; (simp only [pvK, AFr.ev, AFr.get, reduceIte, Nat.reduceEqDiff, tk_38]; exact hpp)
        apply s_q; decide; rfl; (simp only [pvK, AFr.ev, AFr.get, reduceIte, Nat.reduceEqDiff, lay_3, hpc, Option.bind_some, ldK]; rfl)
        obtain ⟨br, pre, rfl, hbr, hap, hne⟩ := hD
        have hsl : sliceK (.sl 3 (some 1)) (.vw br 1 pre.length (i :: rd).length) (some (.v (.int .i64 1))) none none = some (.vw br 1 (pre.length + 1) rd.length) := by simp [sliceK, boundV]
        (apply s_q; decide; rfl; (simp only [go_sem]; rfl); apply s_nil; simp only [AThen, ABlock]; refine hK _ _ ?_; clear hK K; refine AWp_seq_k (fun K hK => ?_); apply s_region; apply s_q; decide; rfl; (simp only [go_sem]; rfl); (apply s_q; decide; rfl; (simp only [pvK, AFr.ev, AFr.get, reduceIte, Nat.reduceEqDiff, tk_38, Option.map_some, Option.map_none, AV.ofC]; exact hsl)); apply s_q; decide; rfl; (simp only [go_sem]; rfl); apply s_nil; simp only [AThen, ABlock]; refine hK _ _ ?_; clear hK K; refine AWp_seq_k (fun K hK => ?_); apply s_region; (iterate 2 (apply s_q; decide; rfl; (simp only [go_sem]; rfl))); apply s_lit; decide; exact el_38; (simp only [go_sem]; rfl); (simp only [go_sem]; rfl); decide)
        apply s_append; decide; exact (by simp only [go_sem]; try rfl); exact (by simp only [go_sem]; try rfl); apply AApp_push el_38 hOwn.held (cellsN_one _) (nes := [[.v (.int .i64 (i : Int))]]) (fun M => src_sl tk_38 (fun e he => by simp at he; subst he; exact ⟨rfl, rfl⟩)) (by simp) (by rw [cellsN_len, List.length_singleton]; omega) (by rw [cellsN_len, List.length_singleton]; omega); intro nb L4 k1 k2
        rw [cellsN_app] at k1 ⊢
        obtain ⟨b1, b2, b3⟩ := hKd.push hOwn k1 k2
        obtain ⟨b4, b5⟩ := b3 br _ hbr hne
        have b6 : Due H L4 n bk bw ks (.row nb 1 (cellsN (told ++ [i])).length) rd (.vw br 1 (pre.length + 1) rd.length) := by
          refine ⟨br, pre ++ [[.v (.int .i64 (i : Int))]], by simp, ?_, hap, fun m e => by cases e; exact b5 rfl⟩
          rw [b4]
          simp [cellsN, ofN, intCells]
        clear b3 b4 b5 k1 k2 hKd hOwn hbr hne
        have hk := b1.k
        have hgk := get_range (fun p => [ks p]) hin
        have hlt4 : ((i : Int) < (n : Int)) = True := by simp; omega
        have hlk := held_len (e' := 3) (s' := some 1) (b1.held i hin) L4
        rw [cellsN_len] at hlk
        have harr := fun (L : AHeap) (W : Nat → Nat) (h : Kids H L n bk bw ks (kidsOf P n) W) => h.arr hin
        (apply s_q; decide; rfl; (simp only [go_sem, hk, hgk, hlt4]; rfl); apply s_nil; simp only [AThen, ABlock]; refine hK _ _ ?_; clear hK K; refine AWp_seq_k (fun K hK => ?_); apply s_region; (iterate 4 (apply s_q; decide; rfl; (simp only [go_sem, hk, hgk, hlt4]; rfl))); (apply s_q; decide; rfl; (simp only [go_sem]; exact hlk)); apply s_q; decide; rfl; (simp only [go_sem, hk, hgk, hlt4]; rfl); apply s_nil; simp only [AThen, ABlock]; refine hK _ _ ?_; clear hK K; apply AWp_block)
        have hkdl : (kidsOf P n i).length ≤ n := Nat.le_trans (List.length_filter_le _ _) (by rw [List.length_range]; omega)
        have hkd : ∀ j, j < n → (j ∈ kidsOf P n i ↔ (i : Int) ∈ P.getD j []) := fun j hj => by
          rw [kidsOf, List.mem_filter, List.mem_range, decide_eq_true_iff]
          exact ⟨fun h => h.2, fun h => ⟨hj, h⟩⟩
        have hkdn : (kidsOf P n i).Nodup := List.nodup_range.filter _
        have hkdb : ∀ j ∈ kidsOf P n i, j < n := fun j hj => by
          rw [kidsOf, List.mem_filter, List.mem_range] at hj; exact hj.1
        obtain ⟨kd, hkde⟩ : ∃ kd, kidsOf P n i = kd := ⟨_, rfl⟩
        rw [hkde] at hkdl hkd hkdn hkdb harr ⊢
        have hMid := mid_start hOk hW
        refine AWp_loop_s (σ := Nat × List Nat × AV × AHeap × (Nat → Nat)) [6, 7, 8, 14, 15, 16, 112, 113, 114] (fun s => [.v (.int .i64 n), .row bk 1 n, .row bw 1 n, .fn (.func 86) [] [.fp [.sl false (R.map intCells)]], s.2.2.1, .row nb 1 (cellsN (told ++ [i])).length, ks i, .v (.int .i64 (kd.length : Nat)), .v (.int .i64 s.1)]) (fun s => s.2.2.2.1) (fun s => kd.length - s.1)
          (fun s => s.1 ≤ kd.length ∧ Kids H s.2.2.2.1 n bk bw ks (kidsOf P n) s.2.2.2.2 ∧ Own H s.2.2.2.1 n bk bw ks (told ++ [i]) (.row nb 1 (cellsN (told ++ [i])).length) ∧ Due H s.2.2.2.1 n bk bw ks (.row nb 1 (cellsN (told ++ [i])).length) s.2.1 s.2.2.1 ∧ Mid P R n told i (kd.take s.1) s.2.1 s.2.2.2.2)
          (0, rd, .vw br 1 (pre.length + 1) rd.length, L4, W) ⟨Nat.zero_le _, b1, b2, b6, hMid⟩ rfl rfl (fun s hs => ?_)
        obtain ⟨m, rd2, aR3, L6, W2⟩ := s
        obtain ⟨hm, hKd, hOwn, hD, hMd⟩ := hs
        clear b1 b2 b6 hMid hlk
        simp only [List.zip_cons_cons, List.zip_nil_right] at hm hKd hOwn hD hMd ⊢
        (refine AWp_seq_k (fun K hK => ?_); apply s_region; apply s_q; decide; rfl; (simp only [go_sem]; rfl); apply s_nil; simp only [AThen, ABlock]; refine hK _ _ ?_; clear hK K; refine AWp_seq_k (fun K hK => ?_))
        refine cond_split (by simp only [go_sem]; try rfl) (fun he => ?_) (fun he => ?_)
        · have hml : m < kd.length := by simpa using he
          obtain ⟨k, hkk⟩ := gete hml
          have hkn := hkdb k (List.mem_of_getElem? hkk)
          have hki := (hkd k hkn).1 (List.mem_of_getElem? hkk)
          have hknt : k ∉ kd.take m := fun hc => by
            obtain ⟨j, hj, e⟩ := List.mem_take_iff_getElem.1 hc
            have := nodup_inj hkdn hkk (by rw [← e]; exact List.getElem?_eq_getElem (by omega))
            omega
          obtain ⟨m1, m2, m3, m4⟩ := mid_kid hMd hAll hcl hin hit hmay.2 hkn hknt hki
          have hcnt := cnt_le n (P.getD k []) (told ++ [i])
          have hk' : (ofN kd)[m]? = some (k : Int) := by rw [ofN, List.getElem?_map, hkk]; rfl
          obtain ⟨pp, hpp, hpc⟩ := (harr L6 W2 hKd).at_ hk'
          obtain ⟨c, hc⟩ : ∃ c, cnt n (P.getD k []) (told ++ [i]) = c := ⟨_, rfl⟩
          rw [hc] at m1 m3 m4 hcnt
          (apply AWp_skip; simp only [AThen, ABlock]; refine hK _ _ ?_; clear hK K; refine AWp_seq_k (fun K hK => ?_); apply AWp_block; refine AWp_seq_k (fun K hK => ?_); apply s_region)
          apply s_q; decide; rfl; (simp only [pvK, AFr.ev, AFr.get, reduceIte, Nat.reduceEqDiff, tk_38]; exact hpp)
          apply s_q; decide; rfl; (simp only [pvK, AFr.ev, AFr.get, reduceIte, Nat.reduceEqDiff, lay_3, hpc, Option.bind_some, ldK]; rfl)
          have hw := hKd.w
          have hgw : ((List.range n).map fun j => intCells (W2 j : Nat))[k]? = some [.v (.int .i64 ((c + 1 : Nat) : Int))] := by rw [get_range _ hkn, m1]; rfl
          have hlt5 : ((k : Int) < (n : Int)) = True := by simp; omega
          have e5 : IntKind.i64.wrap (((c + 1 : Nat) : Int) - 1) = ((c : Nat) : Int) := by rw [wrap64 (by omega)]; omega
          (apply s_q; decide; rfl; (simp only [go_sem]; rfl))
          apply s_nil; simp only [AThen, ABlock]; refine hK _ _ ?_; clear hK K
          refine AWp_seq_k (fun K hK => ?_); apply s_region
          ((iterate 6 (apply s_q; decide; rfl; (simp only [go_sem, hw, hgw, hlt5, e5]; rfl))); apply s_store; (simp only [go_sem, hw, hgw, hlt5, e5]; rfl); (simp only [go_sem, hw, hgw, hlt5, e5]; rfl); (simp only [go_sem, hw, hgw, hlt5, e5]; rfl))
          apply s_nil; simp only [AThen, ABlock]; refine hK _ _ ?_; clear hK K
          have c1 := hKd.wset k c
          have hnb : ∀ m, (AV.row nb 1 (cellsN (told ++ [i])).length) ≠ .row bw 1 m := fun m e => by
            rcases hOwn with ⟨h1, _⟩ | ⟨b, h1, _, h3⟩
            · cases h1
            · rw [cellsN_len] at h1; cases h1; cases e; exact h3.aw rfl
          have c2 : Own H (L6.put bw (.row 3 1 false (((List.range n).map fun j => intCells (W2 j : Nat)).set k (intCells (c : Nat))))) n bk bw ks (told ++ [i]) (.row nb 1 (cellsN (told ++ [i])).length) := hOwn.keep (fun c o hc hne => by rw [AHeap.get_put, if_neg hne]; exact hc) hnb
          have c3 : Due H (L6.put bw (.row 3 1 false (((List.range n).map fun j => intCells (W2 j : Nat)).set k (intCells (c : Nat))))) n bk bw ks (.row nb 1 (cellsN (told ++ [i])).length) rd2 aR3 := hD.keep (fun c o hc ha _ => by rw [AHeap.get_put, if_neg ha.aw]; exact hc)
          have hL7 : L6.put bw (.row 3 1 false (((List.range n).map fun j => intCells (W2 j : Nat)).set k [.v (.int .i64 ((c : Nat) : Int))])) = L6.put bw (.row 3 1 false (((List.range n).map fun j => intCells (W2 j : Nat)).set k (intCells (c : Nat)))) := rfl
          rw [hL7]
          clear hL7 hKd hOwn hD hw hgw hpc hpp
          generalize L6.put bw (.row 3 1 false (((List.range n).map fun j => intCells (W2 j : Nat)).set k (intCells (c : Nat)))) = L7 at c1 c2 c3 ⊢
          obtain ⟨W3, hW3⟩ : ∃ W3, (fun j => if j = k then c else W2 j) = W3 := ⟨_, rfl⟩
          rw [hW3] at c1 m3 m4
          have hw := c1.w
          have hgw : ((List.range n).map fun j => intCells (W3 j : Nat))[k]? = some [.v (.int .i64 ((c : Nat) : Int))] := by rw [get_range _ hkn, ← hW3]; simp [intCells]
          (refine AWp_seq_k (fun K hK => ?_); apply s_region; (iterate 5 (apply s_q; decide; rfl; (simp only [go_sem, hw, hgw, hlt5]; rfl))); apply s_nil; simp only [AThen, ABlock]; refine hK _ _ ?_; clear hK K)
          refine cond_split (by simp only [go_sem]; try rfl) (fun hz => ?_) (fun hz => ?_)
          · have hz : c = 0 := by simpa using hz
            have mm := m3 hz
            subst hz
            have hlenL : (ofN rd2).length = rd2.length := by simp [ofN]
            have hrdl : rd2.length ≤ n := sorted_len hMd.sorted (fun x hx => ((hMd.mem x).1 hx).1)
            refine AWp_seq_k (fun K hK => ?_); apply s_region
            ((iterate 3 (apply s_q; decide; rfl; (simp only [go_sem]; rfl))); apply s_call; decide; (simp only [go_sem]; rfl); (simp only [go_sem]; rfl); apply search_c R rd2 k (placeOf R rd2 k) aR3 (fun x hx => by have := ((hMd.mem x).1 hx).1; omega) (by omega) (by omega) L7 (ofN rd2) rfl c3.arr place_le place_lt (place_ge hMd.sorted); intro fnd; (iterate 5 (apply s_q; decide; rfl; (simp only [go_sem]; rfl))))
            apply s_nil; simp only [AThen, ABlock]; refine hK _ _ ?_; clear hK K
            obtain ⟨br2, pre2, rfl, k1, k2, k3⟩ := c3
            apply s_region
            apply s_q; decide; rfl; exact (by simp only [go_sem]; try rfl)
            apply s_q; decide; rfl; exact (by simp only [go_sem]; try rfl)
            apply s_q; decide; rfl; exact (by simp only [go_sem]; try rfl)
            apply s_litrow; decide; exact el_38; exact (by simp only [go_sem]; try rfl); exact (by simp only [go_sem]; try rfl); decide; intro vb hvb
            apply s_call; decide; exact (by simp only [go_sem]; try rfl); exact (by simp only [go_sem]; try rfl)
            refine ACall_insert inserts89 (by kernel_rfl) (get_fresh k1 hvb) rfl (cellsN_len rd2).symm (AHeap.get_put_same _ _ _) (by rintro rfl; rw [k1] at hvb; cases hvb) place_le (by omega) (by decide) (fun x hx => ?_) rfl (fun b' pre' L' g1 g2 g3 => ?_)
            · obtain ⟨d, _, rfl⟩ := List.mem_map.1 hx; rfl
            rw [cellsN_ins] at g1
            have hkp : ∀ c o, L7.get c = some o → c ≠ br2 → L'.get c = some o := fun c o hc hne => g3 c o (get_fresh hc hvb) hne
            have r1 := c1.keep k2 hkp
            have r2 := c2.keep hkp k3
            have r3 : Due H L' n bk bw ks (.row nb 1 (cellsN (told ++ [i])).length) (insAt rd2 (placeOf R rd2 k) k) (.vw b' 1 pre'.length (rd2.length + 1)) := by
              refine ⟨b', pre', by rw [insAt_len _ _ _ place_le], g1, ?_, ?_⟩
              · rcases g2 with rfl | g2
                · exact k2
                · exact c1.apart (none_fresh g2)
              · rcases g2 with rfl | g2
                · exact k3
                · exact fun m => c2.block (none_fresh g2) m
            (apply s_q; decide; rfl; (simp only [go_sem]; rfl); apply s_nil; simp only [AThen, ABlock]; refine hK _ _ ?_; clear hK K; apply s_region; (iterate 2 (apply s_q; decide; rfl; (simp only [go_sem]; rfl))); apply s_nil; simp only [AThen, ABlock])
            refine ⟨(m + 1, insAt rd2 (placeOf R rd2 k) k, .vw b' 1 pre'.length (rd2.length + 1), L', W3), by simp only; omega, ⟨by simp only; omega, r1, r2, r3, by simp only; rw [take_succ hkk]; exact mm⟩, ?_, by rfl⟩
            simp only [getAll, List.map_cons, List.map_nil, AFr.get, reduceIte, Nat.reduceEqDiff]
            rw [wrapS hml (by omega)]; try rfl
          · have hz : ¬ c = 0 := by simpa using hz
            have mm := m4 hz
            (apply AWp_skip; simp only [AThen, ABlock]; refine hK _ _ ?_; clear hK K; apply s_region; (iterate 2 (apply s_q; decide; rfl; (simp only [go_sem]; rfl))); apply s_nil; simp only [AThen, ABlock])
            refine ⟨(m + 1, rd2, aR3, L7, W3), by simp only; omega, ⟨by simp only; omega, c1, c2, c3, by simp only; rw [take_succ hkk]; exact mm⟩, ?_, by rfl⟩
            simp only [getAll, List.map_cons, List.map_nil, AFr.get, reduceIte, Nat.reduceEqDiff]
            rw [wrapS hml (by omega)]; try rfl
        · have hge : kd.length ≤ m := by simpa using he
          rw [List.take_of_length_le hge] at hMd
          obtain ⟨q1, q2⟩ := mid_end hMd hkd
          (apply AWp_exit; simp only [AThen, ABlock, reduceIte, Nat.reduceEqDiff])
          refine ⟨(told ++ [i], rd2, .row nb 1 (cellsN (told ++ [i])).length, aR3, L6, W2), by simp only; omega, ⟨hKd, hOwn, .inr hD, q1, q2, closed_step hcl hmay.2, ?_, ?_⟩, ?_, by rfl⟩
          · simp only
            rw [List.length_append, List.length_singleton]; omega
          · simp only
            rw [← refF_step hOk (by omega)]; exact hF
          · simp only [getAll, List.map_cons, List.map_nil, AFr.get, reduceIte, Nat.reduceEqDiff]
      · have hge : rd = [] := by
          cases rd with
          | nil => rfl
          | cons i rd => simp at hw
        subst hge
        have hlo2 := held_len (e' := 3) (s' := some 1) hOwn.held L
        rw [cellsN_len] at hlo2
        (apply AWp_exit; simp only [AThen, ABlock, reduceIte, Nat.reduceEqDiff]; clear hK K; refine hK _ _ ?_; clear hK K; (iterate 2 (refine AWp_seq_k (fun K hK => ?_))); apply s_region; apply s_q; decide; rfl; (simp only [go_sem]; rfl); (apply s_q; decide; rfl; (simp only [go_sem]; exact hlo2)); (iterate 2 (apply s_q; decide; rfl; (simp only [go_sem]; rfl))); apply s_nil; simp only [AThen, ABlock]; refine hK _ _ ?_; clear hK K)
        refine cond_split (by simp only [go_sem]; try rfl) (fun hq2 => ?_) (fun hq2 => ?_)
        · have hlt : told.length < n := by simpa using hq2
          rw [refF_stop hOk hlt] at hF
          subst hF
          (refine AWp_seq_k (fun K hK => ?_); apply s_region; (iterate 2 (apply s_q; decide; rfl; (simp only [go_sem]; rfl))); apply s_nil; simp only [AThen, ABlock]; refine hK _ _ ?_; clear hK K; apply AWp_ret; simp only [AThen, ABlock]; apply end_ret; rfl; simp only [AFr.get, reduceIte, Nat.reduceEqDiff])
          exact ⟨L, .sl true [], rfl, hKd.ext, .inl ⟨rfl, rfl, rfl⟩⟩
        · have hge2 : told.length = n := by simp at hq2; omega
          rw [hge2, Nat.sub_self, refF] at hF
          subst hF
          (apply AWp_skip; simp only [AThen, ABlock]; refine hK _ _ ?_; clear hK K; refine AWp_seq_k (fun K hK => ?_); apply s_region; (iterate 3 (apply s_q; decide; rfl; (simp only [go_sem]; rfl))); apply s_nil; simp only [AThen, ABlock]; refine hK _ _ ?_; clear hK K; apply AWp_ret)
          obtain ⟨L8, h1, h2⟩ := hOwn.rowAt.toGr hKd.ext
          exact ⟨L8, aO, rfl, h1, h2⟩
end Go.Proofs.YtcpfgjfiacfmoaaGreatDoor
