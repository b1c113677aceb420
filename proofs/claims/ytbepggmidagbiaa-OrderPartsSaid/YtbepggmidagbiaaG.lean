/-
  AppendSeq and Collect of a row's values.
-/
import Derived.Test.YtbepggmidagbiaaF
set_option linter.unusedSimpArgs false
set_option linter.unusedVariables false
set_option maxRecDepth 100000
namespace Go.Proofs.Ytbepggmidagbiaa
open Go Go.AL
attribute [local irreducible] AOps AWp SOps AE AT ACall AApp

theorem appendSeq_c (cb : Nat) (t : Bool) (l : List Int) (hl : l.length ≤ 1000000) (H : AHeap) (hcb : H.get cb = some (.box 25 [.sl t (l.map intCells)])) (Kc : AV → AHeap → Prop)
    (h : ∀ s L, Ext H L → RowAt 3 1 H L (l.map intCells) s → Kc s L) : ACall X 79 [.sl true [], .fn (.func 68) [] [ptrTo cb]] H Kc := by
  refine ACall_intro Try.func79 rfl (by kernel_rfl) (by rw [Try.ntmps79]; simp) ?_; rw [Try.ntmps79]; simp only [frame0, Nat.reduceAdd]
  refine AWp_seq_k (fun K hK => ?_); apply s_region
  apply s_box; decide; exact (by simp only [go_sem]; try rfl); exact (by simp only [go_sem]; try rfl); intro B hB
  have e1 := AHeap.get_put_same B (.box 25 [.sl true []]) H
  have e2 := get_fresh hcb hB (x := .box 25 [.sl true []])
  have e3 := Ext.fresh hB (o := .box 25 [.sl true []])
  generalize AHeap.put B (.box 25 [.sl true []]) H = M at e1 e2 e3 ⊢
  (repeat' (first | (refine AWp_seq_k (fun K hK => ?_)) | (apply s_region) | (apply s_q; (first | decide | (dsimp only; decide)); rfl; (solve | (simp only [go_sem]; try rfl))) | (apply s_nil; try simp only [AThen, ABlock]; try (first | (refine hK _ _ ?_; clear hK K) | (clear hK K; refine hK _ _ ?_; clear hK K) | (clear hK K; clear hK K; refine hK _ _ ?_; clear hK K))) | (apply AWp_block) | (apply AWp_ret; try simp only [AThen, ABlock]; apply end_ret; rfl; try simp only [AFr.get, reduceIte, Nat.reduceEqDiff]) | (apply s_store; (solve | (simp only [go_sem]; try rfl)); (solve | (simp only [go_sem]; try rfl)); (solve | (simp only [go_sem]; try rfl))) | (apply s_box; (first | decide | (dsimp only; decide)); (solve | (simp only [go_sem]; try rfl)); (solve | (simp only [go_sem]; try rfl)); intro b hb) | (apply s_lit; (first | decide | (dsimp only; decide)); exact el_25; (solve | (simp only [go_sem]; try rfl)); (solve | (simp only [go_sem]; try rfl)); decide)))
  refine AWp_cut [2, 6] (vs := [ptrTo B, .fn (.func 68) [] [ptrTo cb]]) rfl ?_
  simp only [List.zip_cons_cons, List.zip_nil_right]
  apply AWp_rangeFunc; exact (by simp only [go_sem]; try rfl); intro y hy
  generalize hlo : AObj.loop 13 _ _ _ _ LoopState.ready none = lo
  have y1 := get_ne_fresh e1 hy
  have y2 := get_ne_fresh e2 hy
  have hHy : H.get y = none := none_of_ext e3 hy
  have hHB : H.get B = none := hB
  refine iterV_c y cb t l hl (fun n L => L.get y = some lo ∧ L.get cb = some (.box 25 [.sl t (l.map intCells)]) ∧ Ext H L ∧ ∃ sv, L.get B = some (.box 25 [sv]) ∧ RowAt 3 1 H L ((l.take n).map intCells) sv) _ (fun n L h => h.2.1) ?_ ?_ _ ?_
  · rintro n x L hx ⟨g1, g2, g3, sv, g4, gR⟩
    obtain ⟨g5, g6⟩ : HeldAt 3 1 L ((l.take n).map intCells) sv ∧ (∀ b n, sv = .row b 1 n → H.get b = none) := by
      rcases gR with ⟨rfl, h0⟩ | ⟨b, h1, rfl, h3⟩
      · exact ⟨.inl (by rw [h0]), by intro b n h; cases h⟩
      · exact ⟨.inr ⟨b, rfl, h3⟩, by intro b' n h; cases h; exact h1⟩
    rw [← hlo] at g1
    apply AYield_intro g1 rfl; decide
    simp only [putAll, List.toList_toArray]
    (repeat' (first | (refine AWp_seq_k (fun K hK => ?_)) | (apply s_region) | (apply s_q; (first | decide | (dsimp only; decide)); rfl; (solve | (simp only [go_sem]; try rfl))) | (apply s_nil; try simp only [AThen, ABlock]; try (first | (refine hK _ _ ?_; clear hK K) | (clear hK K; refine hK _ _ ?_; clear hK K) | (clear hK K; clear hK K; refine hK _ _ ?_; clear hK K))) | (apply AWp_block) | (apply AWp_ret; try simp only [AThen, ABlock]; apply end_ret; rfl; try simp only [AFr.get, reduceIte, Nat.reduceEqDiff]) | (apply s_store; (solve | (simp only [go_sem]; try rfl)); (solve | (simp only [go_sem]; try rfl)); (solve | (simp only [go_sem]; try rfl))) | (apply s_box; (first | decide | (dsimp only; decide)); (solve | (simp only [go_sem]; try rfl)); (solve | (simp only [go_sem]; try rfl)); intro b hb) | (apply s_lit; (first | decide | (dsimp only; decide)); exact el_25; (solve | (simp only [go_sem]; try rfl)); (solve | (simp only [go_sem]; try rfl)); decide)))
    refine ⟨g1, ?_⟩
    generalize hlb : AObj.loop 13 _ _ _ _ LoopState.busy none = lb
    have c2 : (L.put y lb).get cb = some (.box 25 [.sl t (l.map intCells)]) := by rw [AHeap.get_put, if_neg y2]; exact g2
    have c3 := g3.over (o := lb) hHy
    have c4 : (L.put y lb).get B = some (.box 25 [sv]) := by rw [AHeap.get_put, if_neg y1]; exact g4
    have c5 := g5.put g1 (fun _ _ _ h => by cases h) (o' := lb)
    have d1 := AHeap.get_put_same y lb L
    have hnl : n < l.length := (List.getElem?_eq_some_iff.1 hx).1
    generalize L.put y lb = N at c2 c3 c4 c5 d1 ⊢
    have hlen1 : ∀ e ∈ ((l.take n).map intCells), e.length = 1 := fun e he => by
      obtain ⟨d, _, rfl⟩ := List.mem_map.1 he; rfl
    have hne : ∀ q o', N.get q = some o' → (∀ sz sn es, o' ≠ .row 3 sz sn es) → ∀ b, sv = .row b 1 ((l.take n).map intCells).length → q ≠ b := by
      rintro q o' hq' ho' b hb rfl
      rcases c5 with h1 | ⟨b2, h1, h2⟩
      · rw [h1] at hb; cases hb
      · rw [h1] at hb; cases hb
        rw [h2] at hq'; cases hq'
        exact ho' _ _ _ rfl
    (repeat' (first | (refine AWp_seq_k (fun K hK => ?_)) | (apply s_region) | (apply s_q; (first | decide | (dsimp only; decide)); rfl; (solve | (simp only [go_sem, c4]; try rfl))) | (apply s_nil; try simp only [AThen, ABlock]; try (first | (refine hK _ _ ?_; clear hK K) | (clear hK K; refine hK _ _ ?_; clear hK K) | (clear hK K; clear hK K; refine hK _ _ ?_; clear hK K))) | (apply AWp_block) | (apply AWp_ret; try simp only [AThen, ABlock]; apply end_ret; rfl; try simp only [AFr.get, reduceIte, Nat.reduceEqDiff]) | (apply s_store; (solve | (simp only [go_sem, c4]; try rfl)); (solve | (simp only [go_sem, c4]; try rfl)); (solve | (simp only [go_sem, c4]; try rfl))) | (apply s_box; (first | decide | (dsimp only; decide)); (solve | (simp only [go_sem, c4]; try rfl)); (solve | (simp only [go_sem, c4]; try rfl)); intro b hb) | (apply s_lit; (first | decide | (dsimp only; decide)); exact el_25; (solve | (simp only [go_sem, c4]; try rfl)); (solve | (simp only [go_sem, c4]; try rfl)); decide) | (apply s_append; (first | decide | (dsimp only; decide)); (solve | (simp only [go_sem, c4]; try rfl)); (solve | (simp only [go_sem, c4]; try rfl)); apply AApp_push el_25 c5 hlen1 (nes := [[.v (.int .i64 x)]]) (fun M => src_sl tk_25 (fun e he => by simp at he; subst he; exact ⟨rfl, rfl⟩)) (by simp) (by simp; omega) (by simp; omega); intro nb L2 k1 k2)))
    have f1 := (k2 y _ d1 (hne y _ d1 (by rw [← hlb]; intro _ _ _ h; cases h))).1
    have f2 := (k2 cb _ c2 (hne cb _ c2 (by intro _ _ _ h; cases h))).1
    have f6 : Ext H L2 := fun q o' hq' => (k2 q o' (c3 q o' hq') (by rintro b hb rfl; rw [g6 _ _ hb] at hq'; cases hq')).1
    have f8 := (k2 B _ c4 (hne B _ c4 (by intro _ _ _ h; cases h))).1
    have f10 : H.get nb = none := by
      cases hx2 : H.get nb with
      | none => rfl
      | some o' => exact absurd rfl (k2 nb o' (c3 nb o' hx2) (by rintro b hb rfl; rw [g6 _ _ hb] at hx2; cases hx2)).2
    have hcbB : cb ≠ B := by rintro rfl; rw [hcb] at hHB; cases hHB
    have hnbB : nb ≠ B := by rintro rfl; rw [f8] at k1; cases k1
    have hnby : nb ≠ y := by rintro rfl; rw [f1] at k1; rw [← hlb] at k1; cases k1
    have hpp : ((l.take n).map intCells ++ [[.v (.int .i64 x)]]) = (l.take (n + 1)).map intCells := by rw [take_succ hx]; simp [intCells]
    have f12 : (L2.put B (.box 25 [.row nb 1 ((l.take n).map intCells ++ [[AV.v (.int .i64 x)]]).length])).get y = some lb := by rw [AHeap.get_put, if_neg (Ne.symm y1)]; exact f1
    (repeat' (first | (refine AWp_seq_k (fun K hK => ?_)) | (apply s_region) | (apply s_q; (first | decide | (dsimp only; decide)); rfl; (solve | (simp only [go_sem, f8]; try rfl))) | (apply s_nil; try simp only [AThen, ABlock]; try (first | (refine hK _ _ ?_; clear hK K) | (clear hK K; refine hK _ _ ?_; clear hK K) | (clear hK K; clear hK K; refine hK _ _ ?_; clear hK K))) | (apply AWp_block) | (apply AWp_ret; try simp only [AThen, ABlock]; apply end_ret; rfl; try simp only [AFr.get, reduceIte, Nat.reduceEqDiff]) | (apply s_store; (solve | (simp only [go_sem, f8]; try rfl)); (solve | (simp only [go_sem, f8]; try rfl)); (solve | (simp only [go_sem, f8]; try rfl))) | (apply s_box; (first | decide | (dsimp only; decide)); (solve | (simp only [go_sem, f8]; try rfl)); (solve | (simp only [go_sem, f8]; try rfl)); intro b hb) | (apply s_lit; (first | decide | (dsimp only; decide)); exact el_25; (solve | (simp only [go_sem, f8]; try rfl)); (solve | (simp only [go_sem, f8]; try rfl)); decide)))
    simp only [ABlock, ARound]
    refine ⟨by rw [hlb]; exact f12, .inl ⟨by trivial, ?_, ?_, ?_, .row nb 1 ((l.take n).map intCells ++ [[AV.v (.int .i64 x)]]).length, ?_, ?_⟩⟩
    · rw [AHeap.get_put_same, hlo]
    · rw [AHeap.get_put, if_neg y2, AHeap.get_put, if_neg hcbB]; exact f2
    · exact (f6.over hHB).over hHy
    · rw [AHeap.get_put, if_neg y1, AHeap.get_put_same]
    · rw [hpp] at k1 ⊢
      exact .inr ⟨nb, f10, rfl, by rw [AHeap.get_put, if_neg hnby, AHeap.get_put, if_neg hnbB]; exact k1⟩
  · rintro L ⟨g1, g2, g3, sv, g4, g5⟩
    refine ⟨_, .ready, none, by rw [g1, ← hlo], by simp, ?_⟩
    simp only [ABlock, AThen]
    have hlor : ∀ sz sn es, lo ≠ .row 3 sz sn es := by rw [← hlo]; intro _ _ _ h; cases h
    have q1 : (AHeap.del y L).get B = some (.box 25 [sv]) := by rw [AHeap.get_del, if_neg y1]; exact g4
    have q2 := g3.del hHy
    have q3 := g5.del g1 hlor
    rw [List.take_length] at q3
    refine hK _ _ ?_
    (repeat' (first | (refine AWp_seq_k (fun K hK => ?_)) | (apply s_region) | (apply s_q; (first | decide | (dsimp only; decide)); rfl; (solve | (simp only [go_sem, q1]; try rfl))) | (apply s_nil; try simp only [AThen, ABlock]; try (first | (refine hK _ _ ?_; clear hK K) | (clear hK K; refine hK _ _ ?_; clear hK K) | (clear hK K; clear hK K; refine hK _ _ ?_; clear hK K))) | (apply AWp_block) | (apply AWp_ret; try simp only [AThen, ABlock]; apply end_ret; rfl; try simp only [AFr.get, reduceIte, Nat.reduceEqDiff]) | (apply s_store; (solve | (simp only [go_sem, q1]; try rfl)); (solve | (simp only [go_sem, q1]; try rfl)); (solve | (simp only [go_sem, q1]; try rfl))) | (apply s_box; (first | decide | (dsimp only; decide)); (solve | (simp only [go_sem, q1]; try rfl)); (solve | (simp only [go_sem, q1]; try rfl)); intro b hb) | (apply s_lit; (first | decide | (dsimp only; decide)); exact el_25; (solve | (simp only [go_sem, q1]; try rfl)); (solve | (simp only [go_sem, q1]; try rfl)); decide)))
    exact h sv _ q2 q3
  · refine ⟨AHeap.get_put_same _ _ _, get_fresh e2 hy, e3.put hy, .sl true [], get_fresh e1 hy, .inl ⟨rfl, rfl⟩⟩
theorem collect_c (cb : Nat) (t : Bool) (l : List Int) (hl : l.length ≤ 1000000) (H : AHeap) (hcb : H.get cb = some (.box 25 [.sl t (l.map intCells)])) (Kc : AV → AHeap → Prop)
    (h : ∀ s L, Ext H L → RowAt 3 1 H L (l.map intCells) s → Kc s L) : ACall X 67 [.fn (.func 68) [] [ptrTo cb]] H Kc := by
  refine ACall_intro Try.func67 rfl (by kernel_rfl) (by rw [Try.ntmps67]; simp) ?_; rw [Try.ntmps67]; simp only [frame0, Nat.reduceAdd]
  (repeat' (first | (refine AWp_seq_k (fun K hK => ?_)) | (apply s_region) | (apply s_q; (first | decide | (dsimp only; decide)); rfl; (solve | (simp only [go_sem]; try rfl))) | (apply s_nil; try simp only [AThen, ABlock]; try (first | (refine hK _ _ ?_; clear hK K) | (clear hK K; refine hK _ _ ?_; clear hK K) | (clear hK K; clear hK K; refine hK _ _ ?_; clear hK K))) | (apply AWp_ret; try simp only [AThen, ABlock]; apply end_ret; rfl; try simp only [AFr.get, reduceIte, Nat.reduceEqDiff]) | (apply s_call; (first | decide | (dsimp only; decide)); (solve | (simp only [go_sem]; try rfl)); (solve | (simp only [go_sem]; try rfl)); apply appendSeq_c cb t l hl H hcb; intro s L h1 h2)))
  exact h s L h1 h2
end Go.Proofs.Ytbepggmidagbiaa
