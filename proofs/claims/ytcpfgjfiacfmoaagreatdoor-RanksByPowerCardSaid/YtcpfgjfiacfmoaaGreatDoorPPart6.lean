/-
  What places lean on by any way: the program's search, the document's marks. Contracts.
-/
import Derived.Test.YtcpfgjfiacfmoaaGreatDoorPPart5
import Derived.Test.YtcpfgjfiacfmoaaGreatDoorPPart4
import Derived.Test.YtcpfgjfiacfmoaaGreatDoorPAL4
set_option linter.unusedSimpArgs false
set_option linter.unusedVariables false
set_option maxRecDepth 100000
namespace Go.Proofs.YtcpfgjfiacfmoaaGreatDoor
open Go Go.AL
attribute [local irreducible] AOps AWp SOps AE AT ACall AApp

theorem clone_c (t : Bool) (l : List Int) (hl : l.length ≤ 1000000) (H : AHeap) (Kc : AV → AHeap → Prop) (h : ∀ s L, Ext H L → RowAt 3 1 H L (l.map intCells) s → Kc s L) : ACall X 76 [.sl t (l.map intCells)] H Kc := by
  refine ACall_intro Tryz.func76 rfl (by kernel_rfl) (by rw [Tryz.ntmps76]; simp) ?_; rw [Tryz.ntmps76]; simp only [frame0, Nat.reduceAdd]
  (apply sR; intro K hK; refine qr ?_; refine s_nil (hK _ _ ?_); clear hK K; apply sK; intro K hK; apply sR; intro K hK; refine qr ?_)
  apply s_eqnil; decide; exact (by simp only [go_sem]; try rfl); exact Tryz.underlying38; intro b hb
  (refine s_nil (hK _ _ ?_); clear hK K)
  refine cs (fun hc => ?_) (fun hc => ?_)
  · have hl0 : l = [] := by simpa using hb hc
    subst hl0
    (apply sR; intro K hK; refine qr ?_; refine s_nil (hK _ _ ?_); clear hK K; apply AWp_ret; simp only [AThen, ABlock]; apply end_ret; rfl; simp only [AFr.get, reduceIte, Nat.reduceEqDiff])
    exact h _ H (Ext.refl _) (RowAt.nil _ _ _ _)
  · (refine AWp_skip (hK _ _ ?_); clear hK K; apply sR; intro K hK; apply s_lit; decide; exact el_38; (iterate 2 (simp only [go_sem]; rfl)); decide; refine qr ?_; apply s_append; decide; (iterate 2 (simp only [go_sem]; rfl)); apply AApp_at el_38 (Ext.refl _) (RowAt.nil _ _ _ _) (l := []) (m := l) (g := intCells) rfl rfl tk_38 int_one (by simp; omega) (by simp; omega); intro s L h1 h2 h3; refine qr ?_; refine s_nil (hK _ _ ?_); clear hK K; apply AWp_ret)
    exact h s L h2 h1

def mkT (S : List Int) : List (Int × AV) := S.map fun k => (k, .v (.bool true))
theorem mkT_find (k : Int) : ∀ S : List Int, kfind k (mkT S) = if k ∈ S then some (.v (.bool true)) else none
  | [] => rfl
  | x :: S => by
    have ih := mkT_find k S
    rw [mkT] at ih ⊢
    rw [List.map_cons, kfind, ih]
    by_cases e : x = k
    · subst e; simp
    · simp [e, Ne.symm e]
theorem mkT_put {k : Int} : ∀ {S : List Int}, k ∉ S → kput k (.v (.bool true)) (mkT S) = mkT (S ++ [k])
  | [], _ => rfl
  | x :: S, h => by
    have ih := mkT_put (k := k) (S := S) (fun hm => h (by simp [hm]))
    rw [mkT] at ih
    rw [mkT, List.map_cons, kput, if_neg (fun e => h (by have e : x = k := e; simp [e])), ih]
    rfl
theorem below_of {p : Pa} (hr : p.Right) : Below p.auth := fun i r h k hk => ins_at hr.ina h hk
set_option maxHeartbeats 4000000 in
theorem reach_c (p : Pa) (hw : p.Wide) (hr : p.Right) (hn : p.auth.length ≤ 1000) (t : Bool) (l : List Int) (hl : l.length ≤ 1000) (H : AHeap) (Kc : AV → AHeap → Prop)
    (h : ∀ m L S, Ext H L → H.get m = none → L.get m = some (.imap .i64 (mkT S)) → S.Nodup → (∀ k, k ∈ S ↔ Reach p.auth l k) → Kc (.v (.map (some m))) L) : ACall X 51 [.agg p.cells, .sl t (l.map intCells)] H Kc := by
  obtain ⟨w1, w2, w3, w4, w5, w6, w7, w8, w9⟩ := hw
  have hB := below_of hr
  rw [Pa.cells]
  refine ACall_intro Tryz.func51 rfl (by kernel_rfl) (by rw [Tryz.ntmps51]; simp) ?_; rw [Tryz.ntmps51]; simp only [frame0, Nat.reduceAdd]
  apply sR; intro K hK
  apply s_box; decide; exact (by simp only [go_sem]; try rfl); exact (by simp only [go_sem]; try rfl); intro q hq
  generalize hgenq : AHeap.put q _ H = M; obtain ⟨g1, hextq⟩ := gen_ex hgenq hq; have hE := hextq; clear hextq hgenq
  (refine qr ?_; refine s_nil (hK _ _ ?_); clear hK K; apply sR; intro K hK; apply s_imap; decide; exact mp_76; intro b hb; refine qr ?_; refine s_nil (hK _ _ ?_); clear hK K; apply sR; intro K hK; refine qr ?_)
  obtain ⟨mb, hnewq⟩ : ∃ q, q = b := ⟨_, rfl⟩; have hmb := hb; rw [← hnewq] at hmb ⊢; clear hb hnewq; try clear he; clear b
  have gq := get_fresh g1 hmb (x := .imap .i64 [])
  have gm := AHeap.get_put_same mb (.imap .i64 []) M
  have hE2 := hE.put hmb (ob := .imap .i64 [])
  have hHm : H.get mb = none := none_of_ext hE hmb
  have hHq : H.get q = none := hq
  clear g1 hE
  generalize AHeap.put mb (.imap .i64 []) M = M2 at gq gm hE2 ⊢
  (apply s_call; decide; (iterate 2 (simp only [go_sem]; rfl)); apply clone_c _ l (by omega); intro a0 L0 hE0 hR0; refine qr ?_; refine s_nil (hK _ _ ?_); clear hK K; apply sK; intro K hK; apply AWp_block)
  have hR0 := RowAt.base hR0 hE2
  refine AWp_loop_s (σ := List Int × List Int × AV × AHeap) [2, 5, 6] (fun s => [ptrTo q, .v (.map (some mb)), s.2.2.1]) (fun s => s.2.2.2) (fun s => s.2.1.length + 2 * (p.auth.length - s.1.length))
    (fun s => Search p.auth l s.1 s.2.1 ∧ s.2.1.length + 2 * (p.auth.length - s.1.length) ≤ 5000 ∧ s.2.2.2.get q = some (.box 35 [.sl false (p.names.map strCells), .sl false (p.events.map Ev.cells), .sl false (p.prev.map rowCells), .sl false (p.auth.map rowCells), .sl false (p.denied.map bolCells)]) ∧
      s.2.2.2.get mb = some (.imap .i64 (mkT s.1)) ∧ Ext H s.2.2.2 ∧ RowAt 3 1 H s.2.2.2 (s.2.1.map intCells) s.2.2.1)
    ([], l, a0, L0) ⟨Search.start _ _, by simp only [List.length_nil]; omega, hE0 _ _ gq, hE0 _ _ gm, hE2.trans hE0, hR0⟩ rfl rfl (fun s hs => ?_)
  obtain ⟨S, T, a, L⟩ := s
  obtain ⟨hS, hTl, gq, gm, hE, hR⟩ := hs
  clear hR0 hE0 hE2
  simp only [List.zip_cons_cons, List.zip_nil_right] at hS hTl gq gm hE hR ⊢
  have hlo := rowAt_len (e' := 3) (s' := some 1) hR L
  rw [List.length_map] at hlo
  (apply sK; intro K hK; apply sR; intro K hK; refine qr ?_; (apply s_q; decide; rfl; (simp only [go_sem]; exact hlo)); refine qr ?_; refine s_nil (hK _ _ ?_); clear hK K)
  refine cs (fun hd => ?_) (fun hd => ?_)
  · obtain ⟨T0, i, rfl⟩ : ∃ T0 i, T = T0 ++ [i] := by
      rcases List.eq_nil_or_concat T with rfl | ⟨T0, i, rfl⟩
      · simp at hd
      · exact ⟨T0, i, List.concat_eq_append⟩
    clear hlo
    obtain ⟨b, hHb, rfl, gb⟩ := hR.row (by simp)
    have hwr : IntKind.i64.wrap (((T0.length + 1 : Nat) : Int) - 1) = ((T0.length : Nat) : Int) := by rw [wrap64 (by simp at hTl; omega)]; omega
    have hg : ((T0 ++ [i]).map intCells)[T0.length]? = some [.v (.int .i64 i)] := by simp [intCells]
    have hl1 : ((T0 ++ [i]).map intCells).length = T0.length + 1 := by simp
    have hl2 : ((T0 ++ [i]).map intCells).take T0.length = T0.map intCells := by simp
    rw [hl1]
    have hlt1 : ((T0.length : Int) < ((T0.length + 1 : Nat) : Int)) = True := by simp; omega
    have hle1 : ((T0.length : Int) ≤ ((T0.length + 1 : Nat) : Int)) = True := by simp; omega
    have hTl0 : T0.length + 1 + 2 * (p.auth.length - S.length) ≤ 5000 := by simp at hTl; omega
    clear hTl
    (refine AWp_skip (hK _ _ ?_); clear hK K; apply AWp_block; apply sR; intro K hK; (iterate 7 (apply s_q; decide; rfl; (simp only [go_sem, hwr, gb, hg, hlt1, hle1, gq]; rfl))); refine s_nil (hK _ _ ?_); clear hK K; apply sR; intro K hK; (iterate 6 (apply s_q; decide; rfl; (simp only [go_sem, hwr, gb, hg, hlt1, hle1, gq]; rfl))); refine s_nil (hK _ _ ?_); clear hK K; apply sK; intro K hK; apply sR; intro K hK; (iterate 3 (apply s_q; decide; rfl; (simp only [go_sem, hwr, gb, hg, hlt1, hle1, gq]; rfl))); (iterate 2 (apply s_spec; decide; rfl; rfl; (iterate 4 (simp only [go_sem, hwr, gb, hg, hlt1, hle1, gq]; rfl)); trivial)); (iterate 3 (apply s_spec; decide; rfl; rfl; (iterate 4 (simp only [go_sem, hwr, gb, hg, hlt1, hle1, gq]; rfl)); simp [condsOk])); apply s_pick; decide; (iterate 6 (simp only [go_sem, hwr, gb, hg, hlt1, hle1, gq]; rfl)); trivial; trivial; simp [condsOk]; refine s_nil (hK _ _ ?_); clear hK K)
    have gq2 := get_other (x := .row 3 1 false (T0.map intCells)) gq (show q ≠ b by rintro rfl; rw [gb] at gq; cases gq)
    have gm2 := get_other (x := .row 3 1 false (T0.map intCells)) gm (show mb ≠ b by rintro rfl; rw [gb] at gm; cases gm)
    have gb2 := AHeap.get_put_same b (.row 3 1 false (T0.map intCells)) L
    have hE2 := hE.over hHb (o := .row 3 1 false (T0.map intCells))
    refine cs (fun hz => ?_) (fun hz => ?_)
    · have hout : i < 0 ∨ (p.auth.length : Int) ≤ i := by revert hz; simp <;> omega
      refine AWp.trim T0.length gb ?_
      rw [hl2]
      (apply AWp_exit; simp only [AThen, ABlock, reduceIte, Nat.reduceEqDiff])
      refine ⟨(S, T0, .row b 1 T0.length, L.put b (.row 3 1 false (T0.map intCells))), ?_, ⟨hS.drop hout, by simp only; omega, gq2, gm2, hE2, .inr ⟨b, hHb, by simp, gb2⟩⟩, by trivial, by trivial⟩
      simp only [List.length_append, List.length_cons, List.length_nil]; omega
    · have hin : 0 ≤ i ∧ i < (p.auth.length : Int) := by revert hz; simp <;> omega
      obtain ⟨iN, rfl⟩ : ∃ n : Nat, i = n := ⟨i.toNat, by omega⟩
      obtain ⟨r, hra⟩ := gete (l := p.auth) (i := iN) (by omega)
      have hgr := row_at hra
      have hrl := w8 r (List.mem_of_getElem? hra)
      have hW0 := hS.into hra
      refine AWp.trim T0.length gb ?_
      rw [hl2]
      clear gq gm gb hE hR
      generalize L.put b (.row 3 1 false (T0.map intCells)) = L1 at gq2 gm2 gb2 hE2 ⊢
      have hR2 : RowAt 3 1 H L1 (T0.map intCells) (.row b 1 T0.length) := .inr ⟨b, hHb, by simp, gb2⟩
      (refine AWp_skip (hK _ _ ?_); clear hK K; apply sR; intro K hK; (iterate 7 (apply s_q; decide; rfl; (simp only [go_sem, gq2, hgr]; rfl))); refine s_nil (hK _ _ ?_); clear hK K; apply AWp_block)
      refine AWp_loop_s (σ := Nat × List Int × List Int × AV × AHeap) [2, 5, 6, 40, 41, 42] (fun s => [ptrTo q, .v (.map (some mb)), s.2.2.2.1, .sl false (r.map intCells), .v (.int .i64 (r.length : Nat)), .v (.int .i64 s.1)]) (fun s => s.2.2.2.2) (fun s => r.length - s.1)
        (fun s => s.1 ≤ r.length ∧ Within p.auth l iN r s.1 s.2.1 s.2.2.1 ∧ s.2.2.1.length + 2 * (p.auth.length - s.2.1.length) ≤ T0.length + 2 * (p.auth.length - S.length) ∧
          s.2.2.2.2.get q = some (.box 35 [.sl false (p.names.map strCells), .sl false (p.events.map Ev.cells), .sl false (p.prev.map rowCells), .sl false (p.auth.map rowCells), .sl false (p.denied.map bolCells)]) ∧
          s.2.2.2.2.get mb = some (.imap .i64 (mkT s.2.1)) ∧ Ext H s.2.2.2.2 ∧ RowAt 3 1 H s.2.2.2.2 (s.2.2.1.map intCells) s.2.2.2.1)
        (0, S, T0, .row b 1 T0.length, L1) ⟨Nat.zero_le _, hW0, Nat.le_refl _, gq2, gm2, hE2, hR2⟩ rfl rfl (fun s hs => ?_)
      obtain ⟨k, S1, T1, a1, L2⟩ := s
      obtain ⟨hk, hW, hme, gq, gm, hE, hR⟩ := hs
      clear gq2 gm2 gb2 hE2 hR2
      simp only [List.zip_cons_cons, List.zip_nil_right] at hk hW hme gq gm hE hR ⊢
      (apply sR; intro K hK; refine qr ?_; refine s_nil (hK _ _ ?_); clear hK K; apply sK; intro K hK)
      refine cs (fun he => ?_) (fun he => ?_)
      · have hkl : k < r.length := by simpa using he
        obtain ⟨x, hx⟩ := gete hkl
        have hgx := int_at hx
        have hfd := mkT_find x S1
        by_cases hm : x ∈ S1
        · rw [if_pos hm] at hfd
          (refine AWp_skip (hK _ _ ?_); clear hK K; apply sK; intro K hK; apply AWp_block; apply sR; intro K hK; (iterate 3 (apply s_q; decide; rfl; (simp only [go_sem, hgx, gm, hfd]; rfl))); refine s_nil (hK _ _ ?_); clear hK K; apply sR; intro K hK; (iterate 4 (apply s_q; decide; rfl; (simp only [go_sem, hgx, gm, hfd]; rfl))); refine s_nil (hK _ _ ?_); clear hK K)
          refine cs (fun hy => ?_) (fun hy => ?_)
          · cases hy
          (refine AWp_skip (hK _ _ ?_); clear hK K; apply s_region; (iterate 2 (refine qr ?_)); apply s_nil; simp only [AThen, ABlock])
          refine ⟨(k + 1, S1, T1, a1, L2), by simp only; omega, ⟨by simp only; omega, hW.old hx hm, hme, gq, gm, hE, hR⟩, ?_, by trivial⟩
          simp only [getAll, List.map, AFr.get, reduceIte, Nat.reduceEqDiff]
          rw [wrapS hkl (by omega)]; try rfl
        · rw [if_neg hm] at hfd
          have hW2 := hW.new hra hx hm
          have hfew := Search.few hB hW2.nd hW2.sub
          rw [List.length_append, List.length_singleton] at hfew
          (refine AWp_skip (hK _ _ ?_); clear hK K; apply sK; intro K hK; apply AWp_block; apply sR; intro K hK; (iterate 3 (apply s_q; decide; rfl; (simp only [go_sem, hgx, gm, hfd]; rfl))); refine s_nil (hK _ _ ?_); clear hK K; apply sR; intro K hK; (iterate 4 (apply s_q; decide; rfl; (simp only [go_sem, hgx, gm, hfd]; rfl))); refine s_nil (hK _ _ ?_); clear hK K)
          refine cs (fun hy => ?_) (fun hy => ?_)
          rotate_left
          · cases hy
          apply sR; intro K hK
          ((iterate 2 (apply s_q; decide; rfl; (simp only [go_sem, gm]; rfl))); apply s_mapput; (iterate 4 (simp only [go_sem, gm]; rfl)))
          refine s_nil (hK _ _ ?_); clear hK K
          have a1q := get_other (x := .imap .i64 (kput x (.v (.bool true)) (mkT S1))) gq (show q ≠ mb by rintro rfl; rw [gm] at gq; cases gq)
          have a1m := AHeap.get_put_same mb (.imap .i64 (kput x (.v (.bool true)) (mkT S1))) L2
          have a1E := hE.over hHm (o := .imap .i64 (kput x (.v (.bool true)) (mkT S1)))
          have a1R := hR.put gm (fun _ _ _ h => by cases h) (o' := .imap .i64 (kput x (.v (.bool true)) (mkT S1)))
          generalize AHeap.put mb (.imap .i64 (kput x (.v (.bool true)) (mkT S1))) L2 = L3 at a1q a1m a1E a1R ⊢
          rw [mkT_put hm] at a1m
          (apply s_region; (iterate 2 (refine qr ?_)); apply s_lit; decide; exact el_38; (iterate 2 (simp only [go_sem]; rfl)); decide; apply s_append; decide; (iterate 2 (simp only [go_sem]; rfl)); apply AApp_at el_38 a1E a1R (l := T1) (m := [x]) (g := intCells) rfl rfl tk_38 int_one (by simp; omega) (by simp; omega); intro a2 L4 b1 b2 b3; refine qr ?_; refine s_nil (hK _ _ ?_); clear hK K; apply s_region; (iterate 2 (refine qr ?_)); apply s_nil; simp only [AThen, ABlock])
          refine ⟨(k + 1, S1 ++ [x], T1 ++ [x], a2, L4), by simp only; omega, ⟨by simp only; omega, hW2, ?_, b3 _ _ a1q (fun _ _ _ h => by cases h), b3 _ _ a1m (fun _ _ _ h => by cases h), b2, b1⟩, ?_, by trivial⟩
          · simp only [List.length_append, List.length_singleton]; omega
          · simp only [getAll, List.map, AFr.get, reduceIte, Nat.reduceEqDiff]
            rw [wrapS hkl (by omega)]; try rfl
      · have hge : r.length ≤ k := by simpa using he
        (apply AWp_exit; simp only [AThen, ABlock, reduceIte, Nat.reduceEqDiff])
        refine ⟨(S1, T1, a1, L2), ?_, ⟨hW.out hra hge, by simp only; omega, gq, gm, hE, hR⟩, by trivial, by trivial⟩
        simp only [List.length_append, List.length_cons, List.length_nil]; omega
  · have hT0 : T = [] := by
      cases T with
      | nil => rfl
      | cons x T => simp at hd <;> omega
    subst hT0
    (apply AWp_exit; simp only [AThen, ABlock, reduceIte, Nat.reduceEqDiff]; clear hK K; refine hK _ _ ?_; clear hK K; apply sR; intro K hK; (iterate 2 (refine qr ?_)); refine s_nil (hK _ _ ?_); clear hK K; apply AWp_ret)
    exact h _ _ _ hE hHm gm hS.nd (fun k => hS.all)
def markL (au : List (List Int)) (l : List Int) : Nat → List Int
  | 0 => []
  | d + 1 => if ((au.length - 1 - d : Nat) : Int) ∈ markL au l d ∨ ((au.length - 1 - d : Nat) : Int) ∈ l then markL au l d ++ au.getD (au.length - 1 - d) [] else markL au l d
def chainL (au : List (List Int)) (l : List Int) : List Int := ofN ((List.range au.length).filter fun k => decide ((k : Int) ∈ markL au l au.length))
theorem mark_got {au : List (List Int)} (hB : Below au) {l : List Int} {k : Int} : ∀ d, d ≤ au.length → (k ∈ markL au l d ↔ Got au l (au.length - d) k)
  | 0, _ => by
    rw [markL, Nat.sub_zero]
    exact ⟨fun h => (by cases h), fun h => absurd h got_top⟩
  | d + 1, hd => by
    have ih := fun k => mark_got hB (l := l) (k := k) d (by omega)
    obtain ⟨r, hr⟩ := gete (l := au) (i := au.length - 1 - d) (by omega)
    have e1 : au.length - (d + 1) = au.length - 1 - d := by omega
    have e2 : au.length - d = au.length - 1 - d + 1 := by omega
    rw [e2] at ih
    have hm : ((au.length - 1 - d : Nat) : Int) ∈ markL au l d ↔ Reach au l ((au.length - 1 - d : Nat) : Int) := (ih _).trans (got_own hB)
    rw [markL, e1, got_step hr]
    split
    · rename_i h
      rw [List.mem_append, ih, getD_some hr]
      exact or_congr Iff.rfl ⟨fun hk => ⟨h.imp hm.1 id, hk⟩, fun hk => hk.2⟩
    · rename_i h
      rw [ih]
      exact ⟨.inl, fun hk => hk.resolve_right (fun hk => h (hk.1.imp hm.2 id))⟩
theorem mark_reach {au : List (List Int)} (hB : Below au) {l : List Int} {k : Int} : k ∈ markL au l au.length ↔ Reach au l k := by
  rw [mark_got hB au.length (Nat.le_refl _), Nat.sub_self, got_zero]
theorem chain_mem {au : List (List Int)} (hB : Below au) {l : List Int} {k : Int} : k ∈ chainL au l ↔ Reach au l k := by
  rw [chainL, ofN, List.mem_map]
  constructor
  · rintro ⟨n, hn, rfl⟩
    rw [List.mem_filter, decide_eq_true_iff] at hn
    exact (mark_reach hB).1 hn.2
  · intro h
    have := h.lt hB
    refine ⟨k.toNat, ?_, by show ((k.toNat : Nat) : Int) = k; omega⟩
    rw [List.mem_filter, List.mem_range, decide_eq_true_iff, mark_reach hB, show ((k.toNat : Nat) : Int) = k by omega]
    exact ⟨by omega, h⟩
def bits (n : Nat) (G : List Int) : List (List AV) := (List.range n).map fun (k : Nat) => bolCells (decide ((k : Int) ∈ G))
theorem bits_at {n : Nat} {G : List Int} {i : Nat} (h : i < n) : (bits n G)[i]? = some [.v (.bool (decide ((i : Int) ∈ G)))] := get_range _ h
theorem bits_set {n : Nat} {G : List Int} {i : Nat} : (bits n G).set i [.v (.bool true)] = bits n (G ++ [(i : Int)]) := by
  rw [bits, set_range, bits]
  apply List.map_congr_left
  intro j _
  by_cases e : j = i
  · subst e; simp [bolCells]
  · simp [e, Int.ofNat_inj]
theorem bits_nil (n : Nat) : List.replicate n [AV.v (.bool false)] = bits n [] := by
  rw [range_const, bits]
  apply List.map_congr_left
  intro j _
  simp [bolCells]
def chainP (p : Pa) (l : List Int) : List Int := if rightB p = true then chainL p.auth l else []
set_option maxHeartbeats 4000000 in
theorem rchain_c (p : Pa) (hw : p.Wide) (hn : p.events.length ≤ 1000) (t : Bool) (l : List Int) (hl : l.length ≤ 1000) (H : AHeap) (Kc : AV → AHeap → Prop)
    (h : Kc (.sl false ((chainP p l).map intCells)) H) : ACall X 28 [.agg p.cells, .sl t (l.map intCells)] H Kc := by
  have hw' := hw
  obtain ⟨w1, w2, w3, w4, w5, w6, w7, w8, w9⟩ := hw
  refine ACall.gr (e := 3) (sz := 1) h ?_
  clear h
  rw [chainP]
  rw [Pa.cells]
  refine ACall_intro Tryz.func28 rfl (by kernel_rfl) (by rw [Tryz.ntmps28]; simp) ?_; rw [Tryz.ntmps28]; simp only [frame0, Nat.reduceAdd]
  apply sR; intro K hK
  apply s_box; decide; exact (by simp only [go_sem]; try rfl); exact (by simp only [go_sem]; try rfl); intro q hq
  generalize hgenq : AHeap.put q _ H = M; obtain ⟨g1, hextq⟩ := gen_ex hgenq hq; have hE := hextq; clear hextq hgenq
  have hHq : H.get q = none := hq
  (apply s_q; decide; rfl; (simp only [go_sem, g1]; rfl); refine s_nil (hK _ _ ?_); clear hK K; apply sK; intro K hK; apply sR; intro K hK; apply s_q; decide; rfl; (simp only [go_sem, g1]; rfl); apply s_call; decide; (iterate 2 (simp only [go_sem, g1]; rfl)); apply rright_c p hw'; apply s_q; decide; rfl; (simp only [go_sem, g1]; rfl); refine s_nil (hK _ _ ?_); clear hK K)
  refine cs (fun hc => ?_) (fun hc => ?_)
  · have hc : rightB p = false := by simpa using hc
    (apply sR; intro K hK; refine qr ?_; refine s_nil (hK _ _ ?_); clear hK K; apply AWp_ret; simp only [AThen, ABlock]; apply end_ret; rfl; simp only [AFr.get, reduceIte, Nat.reduceEqDiff])
    rw [if_neg (by rw [hc]; decide)]
    exact ⟨M, hE, .inl ⟨rfl, rfl, rfl⟩⟩
  have hc : rightB p = true := by simpa using hc
  have hr := right_true hc
  have hB := below_of hr
  have hau := hr.au
  (refine AWp_skip (hK _ _ ?_); clear hK K; apply sR; intro K hK; (iterate 3 (apply s_q; decide; rfl; (simp only [go_sem, g1]; rfl))))
  apply s_make; decide; exact el_33; exact (by simp only [go_sem]; try rfl); exact (by simp only [go_sem]; try rfl); exact zc_4; (refine ⟨by omega, by omega, by decide⟩); intro bg hbg
  rw [Int.toNat_natCast, ← hau, bits_nil]
  have gq := get_fresh g1 hbg (x := .row 4 1 false (bits p.auth.length []))
  have gb := AHeap.get_put_same bg (.row 4 1 false (bits p.auth.length [])) M
  have hE2 := hE.put hbg (ob := .row 4 1 false (bits p.auth.length []))
  have hHb := none_of_ext hE hbg
  clear g1 hE
  generalize AHeap.put bg (.row 4 1 false (bits p.auth.length [])) M = M2 at gq gb hE2 ⊢
  obtain ⟨n, hnn⟩ : ∃ n, p.auth.length = n := ⟨_, rfl⟩
  have hn1 : n ≤ 1000 := by omega
  rw [hnn] at gb ⊢
  have hw1 : IntKind.i64.wrap ((n : Int) - 1) = (n : Int) - 1 := wrap64 (by omega)
  (apply s_q; decide; rfl; (simp only [go_sem, hw1]; rfl); refine s_nil (hK _ _ ?_); clear hK K; apply sK; intro K hK; apply sR; intro K hK; (iterate 4 (apply s_q; decide; rfl; (simp only [go_sem, hw1]; rfl))); refine s_nil (hK _ _ ?_); clear hK K; apply AWp_block)
  refine AWp_loop_s (σ := Nat × AHeap) [1, 2, 5, 6] (fun s => [.sl t (l.map intCells), ptrTo q, .row bg 1 n, .v (.int .i64 ((n : Int) - 1 - (s.1 : Int)))]) (fun s => s.2) (fun s => n - s.1)
    (fun s => s.1 ≤ n ∧ s.2.get q = some (.box 35 [.sl false (p.names.map strCells), .sl false (p.events.map Ev.cells), .sl false (p.prev.map rowCells), .sl false (p.auth.map rowCells), .sl false (p.denied.map bolCells)]) ∧
      s.2.get bg = some (.row 4 1 false (bits n (markL p.auth l s.1))) ∧ Ext H s.2)
    (0, M2) ⟨Nat.zero_le _, gq, gb, hE2⟩ (by simp only [getAll, List.map, AFr.get, reduceIte, Nat.reduceEqDiff]; simp) rfl (fun s hs => ?_)
  obtain ⟨d, L⟩ := s
  obtain ⟨hdn, gqL, gbL, hEL⟩ := hs
  clear gq gb hE2
  simp only [List.zip_cons_cons, List.zip_nil_right] at hdn gqL gbL hEL ⊢
  (apply sK; intro K hK; apply sR; intro K hK; (iterate 2 (refine qr ?_)); refine s_nil (hK _ _ ?_); clear hK K)
  refine cs (fun hd => ?_) (fun hd => ?_)
  · have hlt : d < n := by simp at hd; omega
    have hi : (n : Int) - 1 - (d : Int) = ((n - 1 - d : Nat) : Int) := by omega
    rw [hi]
    obtain ⟨i, hie⟩ : ∃ i, n - 1 - d = i := ⟨_, rfl⟩
    rw [hie]
    have hin : i < n := by omega
    obtain ⟨r, hra⟩ := gete (l := p.auth) (i := i) (by omega)
    have hgr := row_at hra
    have hrl := w8 r (List.mem_of_getElem? hra)
    have hrin := fun k hk => ins_at hr.ina hra (k := k) hk
    have hbi := bits_at (G := markL p.auth l d) hin
    have hlt5 : ((i : Int) < (n : Int)) = True := by simp; omega
    have hwd : IntKind.i64.wrap ((i : Int) - 1) = (n : Int) - 1 - ((d + 1 : Nat) : Int) := by rw [wrap64 (by omega)]; omega
    have hmk : markL p.auth l (d + 1) = if (i : Int) ∈ markL p.auth l d ∨ (i : Int) ∈ l then markL p.auth l d ++ r else markL p.auth l d := by
      rw [markL, hnn, hie, getD_some hra]
    (refine AWp_skip (hK _ _ ?_); clear hK K; apply sK; intro K hK; apply AWp_block; apply sR; intro K hK; (iterate 5 (apply s_q; decide; rfl; (simp only [go_sem, gbL, hbi, hlt5]; rfl))); (iterate 2 (apply s_spec; decide; rfl; rfl; (iterate 4 (simp only [go_sem, gbL, hbi, hlt5]; rfl)); trivial)); apply s_gpure; decide; (iterate 3 (simp only [go_sem, gbL, hbi, hlt5]; rfl)); simp [condsOk]; (iterate 2 (simp only [go_sem, gbL, hbi, hlt5]; rfl)); (apply in_c _ t l (by omega); exact ⟨rfl, rfl⟩); apply s_pick; decide; (iterate 6 (simp only [go_sem, gbL, hbi, hlt5]; rfl)); trivial; trivial; simp [condsOk]; refine s_nil (hK _ _ ?_); clear hK K)
    refine cs (fun hz => ?_) (fun hz => ?_)
    · have hyes : (i : Int) ∈ markL p.auth l d ∨ (i : Int) ∈ l := by revert hz; by_cases e : (i : Int) ∈ markL p.auth l d <;> simp [e]
      rw [if_pos hyes] at hmk
      (apply sR; intro K hK; refine qr ?_; refine s_nil (hK _ _ ?_); clear hK K; apply AWp_block)
      refine AWp_loop_s (σ := Nat × AHeap) [1, 2, 5, 6, 7] (fun s => [.sl t (l.map intCells), ptrTo q, .row bg 1 n, .v (.int .i64 (i : Int)), .v (.int .i64 (s.1 : Int))]) (fun s => s.2) (fun s => r.length - s.1)
        (fun s => s.1 ≤ r.length ∧ s.2.get q = some (.box 35 [.sl false (p.names.map strCells), .sl false (p.events.map Ev.cells), .sl false (p.prev.map rowCells), .sl false (p.auth.map rowCells), .sl false (p.denied.map bolCells)]) ∧
          s.2.get bg = some (.row 4 1 false (bits n (markL p.auth l d ++ r.take s.1))) ∧ Ext H s.2)
        (0, L) ⟨Nat.zero_le _, gqL, by simpa using gbL, hEL⟩ rfl rfl (fun s hs => ?_)
      obtain ⟨k, L2⟩ := s
      obtain ⟨hk, gq2, gb2, hE2⟩ := hs
      clear gqL gbL hEL
      simp only [List.zip_cons_cons, List.zip_nil_right] at hk gq2 gb2 hE2 ⊢
      (apply sK; intro K hK; apply sR; intro K hK; (iterate 8 (apply s_q; decide; rfl; (simp only [go_sem, gq2, hgr]; rfl))); refine s_nil (hK _ _ ?_); clear hK K)
      refine cs (fun he => ?_) (fun he => ?_)
      · have hkl : k < r.length := by simpa using he
        obtain ⟨x, hx⟩ := gete hkl
        have hgx := int_at hx
        obtain ⟨hx0, hxi⟩ := hrin x (List.mem_of_getElem? hx)
        obtain ⟨xn, rfl⟩ : ∃ xn : Nat, x = xn := ⟨x.toNat, by omega⟩
        have hxn : xn < n := by omega
        have hltx : ((xn : Int) < (n : Int)) = True := by simp; omega
        have hbx := bits_at (G := markL p.auth l d ++ r.take k) hxn
        (refine AWp_skip (hK _ _ ?_); clear hK K; apply sK; intro K hK; apply AWp_block; apply s_region; (iterate 10 (apply s_q; decide; rfl; (simp only [go_sem, gq2, hgr, hgx, gb2, hltx, hbx]; rfl))); apply s_store; (iterate 3 (simp only [go_sem, gq2, hgr, hgx, gb2, hltx, hbx]; rfl)); refine s_nil (hK _ _ ?_); clear hK K; apply s_region; (iterate 3 (apply s_q; decide; rfl; (simp only [go_sem, gq2, hgr, hgx, gb2, hltx, hbx]; rfl))); apply s_nil; simp only [AThen, ABlock])
        have a1 := get_other (x := .row 4 1 false ((bits n (markL p.auth l d ++ r.take k)).set xn [.v (.bool true)])) gq2 (show q ≠ bg by rintro rfl; rw [gb2] at gq2; cases gq2)
        refine ⟨(k + 1, L2.put bg (.row 4 1 false ((bits n (markL p.auth l d ++ r.take k)).set xn [.v (.bool true)]))), by simp only; omega, ⟨by simp only; omega, a1, ?_, hE2.over hHb⟩, ?_, by rfl⟩
        · simp only
          rw [AHeap.get_put_same, bits_set, take_succ hx, List.append_assoc]
        · simp only [getAll, List.map, AFr.get, reduceIte, Nat.reduceEqDiff]
          rw [wrapS hkl (by omega)]; try rfl
      · have hge : r.length ≤ k := by simpa using he
        rw [List.take_of_length_le hge, ← hmk] at gb2
        (apply AWp_exit; simp only [AThen, ABlock, reduceIte, Nat.reduceEqDiff]; clear hK K; refine hK _ _ ?_; clear hK K; apply s_region; (iterate 3 (refine qr ?_)); apply s_nil; simp only [AThen, ABlock])
        refine ⟨(d + 1, L2), by simp only; omega, ⟨by simp only; omega, gq2, gb2, hE2⟩, ?_, by trivial⟩
        simp only [getAll, List.map, AFr.get, reduceIte, Nat.reduceEqDiff]
        rw [hwd]
    · have hno : ¬ ((i : Int) ∈ markL p.auth l d ∨ (i : Int) ∈ l) := by revert hz; by_cases e : (i : Int) ∈ markL p.auth l d <;> simp [e]
      rw [if_neg hno] at hmk
      rw [← hmk] at gbL
      (refine AWp_skip (hK _ _ ?_); clear hK K; apply s_region; (iterate 3 (refine qr ?_)); apply s_nil; simp only [AThen, ABlock])
      refine ⟨(d + 1, L), by simp only; omega, ⟨by simp only; omega, gqL, gbL, hEL⟩, ?_, by trivial⟩
      simp only [getAll, List.map, AFr.get, reduceIte, Nat.reduceEqDiff]
      rw [hwd]
  have hdn2 : d = n := by simp at hd; omega
  subst hdn2
  obtain ⟨G, hG⟩ : ∃ G, markL p.auth l d = G := ⟨_, rfl⟩
  rw [hG] at gbL
  have hch : chainL p.auth l = ofN ((List.range d).filter fun k => decide ((k : Int) ∈ G)) := by rw [chainL, hnn, hG]
  (apply AWp_exit; simp only [AThen, ABlock, reduceIte, Nat.reduceEqDiff]; clear hK K; refine hK _ _ ?_; clear hK K; apply sR; intro K hK; refine qr ?_; refine s_nil (hK _ _ ?_); clear hK K; apply sK; intro K hK; apply sR; intro K hK; refine qr ?_; refine s_nil (hK _ _ ?_); clear hK K; apply AWp_block)
  refine AWp_loop_s (σ := Nat × AV × AHeap) [5, 8, 9] (fun s => [.row bg 1 d, s.2.1, .v (.int .i64 (s.1 : Int))]) (fun s => s.2.2) (fun s => d - s.1)
    (fun s => s.1 ≤ d ∧ s.2.2.get bg = some (.row 4 1 false (bits d G)) ∧ Ext H s.2.2 ∧ RowAt 3 1 H s.2.2 ((ofN ((List.range s.1).filter fun k => decide ((k : Int) ∈ G))).map intCells) s.2.1)
    (0, .sl true [], L) ⟨Nat.zero_le _, gbL, hEL, RowAt.nil _ _ _ _⟩ rfl rfl (fun s hs => ?_)
  obtain ⟨i, o, L2⟩ := s
  obtain ⟨hi, gb2, hE2, hR⟩ := hs
  simp only [List.zip_cons_cons, List.zip_nil_right] at hi gb2 hE2 hR ⊢
  clear gqL gbL hEL
  (apply sK; intro K hK; apply sR; intro K hK; (iterate 4 (refine qr ?_)); refine s_nil (hK _ _ ?_); clear hK K)
  refine cs (fun he => ?_) (fun he => ?_)
  · have hid : i < d := by simpa using he
    have hbi := bits_at (G := G) hid
    have hlti : ((i : Int) < (d : Int)) = True := by simp; omega
    have hlen : (ofN ((List.range i).filter fun k => decide ((k : Int) ∈ G))).length ≤ 1000 := by
      rw [ofN, List.length_map]
      exact Nat.le_trans (List.length_filter_le _ _) (by rw [List.length_range]; omega)
    have hsuc : ofN ((List.range (i + 1)).filter fun k => decide ((k : Int) ∈ G)) = ofN ((List.range i).filter fun k => decide ((k : Int) ∈ G)) ++ (if (i : Int) ∈ G then [(i : Int)] else []) := by
      rw [List.range_succ, List.filter_append, ofN, ofN, List.map_append]
      by_cases e : (i : Int) ∈ G <;> simp [e]
    (refine AWp_skip (hK _ _ ?_); clear hK K; apply sK; intro K hK; apply AWp_block; apply sR; intro K hK; (iterate 4 (apply s_q; decide; rfl; (simp only [go_sem, gb2, hbi, hlti]; rfl))); refine s_nil (hK _ _ ?_); clear hK K)
    refine cs (fun hz => ?_) (fun hz => ?_)
    · have hz : (i : Int) ∈ G := by simpa using hz
      rw [if_pos hz] at hsuc
      (apply s_region; (iterate 2 (refine qr ?_)); apply s_lit; decide; exact el_38; (iterate 2 (simp only [go_sem]; rfl)); decide; apply s_append; decide; (iterate 2 (simp only [go_sem]; rfl)); apply AApp_at el_38 hE2 hR (l := ofN ((List.range i).filter fun k => decide ((k : Int) ∈ G))) (m := [(i : Int)]) (g := intCells) rfl rfl tk_38 int_one (by simp; omega) (by simp; omega); intro o2 L4 b1 b2 b3; refine qr ?_; refine s_nil (hK _ _ ?_); clear hK K; apply s_region; (iterate 3 (refine qr ?_)); apply s_nil; simp only [AThen, ABlock])
      refine ⟨(i + 1, o2, L4), by simp only; omega, ⟨by simp only; omega, b3 _ _ gb2 (fun _ _ _ h => by cases h), b2, by simp only; rw [hsuc]; exact b1⟩, ?_, by trivial⟩
      simp only [getAll, List.map, AFr.get, reduceIte, Nat.reduceEqDiff]
      rw [wrapS hid (by omega)]; try rfl
    · have hz : ¬ (i : Int) ∈ G := by simpa using hz
      rw [if_neg hz, List.append_nil] at hsuc
      (refine AWp_skip (hK _ _ ?_); clear hK K; apply s_region; (iterate 3 (refine qr ?_)); apply s_nil; simp only [AThen, ABlock])
      refine ⟨(i + 1, o, L2), by simp only; omega, ⟨by simp only; omega, gb2, hE2, by simp only; rw [hsuc]; exact hR⟩, ?_, by trivial⟩
      simp only [getAll, List.map, AFr.get, reduceIte, Nat.reduceEqDiff]
      rw [wrapS hid (by omega)]; try rfl
  · have hge : d = i := by simp at he; omega
    subst hge
    rw [← hch] at hR
    (apply AWp_exit; simp only [AThen, ABlock, reduceIte, Nat.reduceEqDiff]; clear hK K; refine hK _ _ ?_; clear hK K; apply sR; intro K hK; (iterate 2 (refine qr ?_)); refine s_nil (hK _ _ ?_); clear hK K; apply AWp_ret)
    obtain ⟨L0, h1, h2⟩ := hR.toGr hE2
    refine ⟨L0, h1, ?_⟩
    rw [if_pos hc]
    exact h2

theorem isNaN64d_c (n : Int) (H : AHeap) (K : AV → AHeap → Prop) (h : K (.v (.bool false)) H) : ACall X.dr 82 [.v (.int .i64 n)] H K := by
  refine ACall_intro Tryz.func82 rfl (by kernel_rfl) (by rw [Tryz.ntmps82]; simp) ?_; rw [Tryz.ntmps82]; simp only [frame0, Nat.reduceAdd]
  (apply sR; intro K hK; refine qr ?_; refine s_nil (hK _ _ ?_); clear hK K; apply sR; intro K hK; (iterate 4 (refine qr ?_)); refine s_nil (hK _ _ ?_); clear hK K; apply AWp_ret)
  exact finB h (by simp)
theorem isNaNd_c (n : Int) (H : AHeap) (K : AV → AHeap → Prop) (h : K (.v (.bool false)) H) : ACall X.dr 97 [.v (.int .i64 n)] H K := by
  refine ACall_intro Tryz.func97 rfl (by kernel_rfl) (by rw [Tryz.ntmps97]; simp) ?_; rw [Tryz.ntmps97]; simp only [frame0, Nat.reduceAdd]
  (apply sR; intro K hK; refine qr ?_; refine s_nil (hK _ _ ?_); clear hK K; apply sR; intro K hK; (iterate 4 (refine qr ?_)); refine s_nil (hK _ _ ?_); clear hK K; apply AWp_ret)
  exact finB h (by simp)
theorem compare64d_c (a b : Int) (H : AHeap) (K : AV → AHeap → Prop) (h : K (.v (.int .i64 (cmp a b))) H) : ACall X.dr 48 [.v (.int .i64 a), .v (.int .i64 b)] H K := by
  refine ACall_intro Tryz.func48 rfl (by kernel_rfl) (by rw [Tryz.ntmps48]; simp) ?_; rw [Tryz.ntmps48]; simp only [frame0, Nat.reduceAdd]
  (apply sR; intro K hK; refine qr ?_; refine s_nil (hK _ _ ?_); clear hK K; apply sR; intro K hK; refine qr ?_; apply s_call; decide; (iterate 2 (simp only [go_sem]; rfl)); apply isNaN64d_c; refine qr ?_; refine s_nil (hK _ _ ?_); clear hK K; apply sR; intro K hK; refine qr ?_; apply s_call; decide; (iterate 2 (simp only [go_sem]; rfl)); apply isNaN64d_c; refine qr ?_; refine s_nil (hK _ _ ?_); clear hK K; apply sK; intro K hK; apply sR; intro K hK; refine qr ?_; refine s_nil (hK _ _ ?_); clear hK K)
  refine cs (fun hc => ?_) (fun hc => ?_)
  · cases hc
  (refine AWp_skip (hK _ _ ?_); clear hK K; apply sK; intro K hK; apply sR; intro K hK; refine qr ?_; refine s_nil (hK _ _ ?_); clear hK K)
  refine cs (fun hc => ?_) (fun hc => ?_)
  · cases hc
  (refine AWp_skip (hK _ _ ?_); clear hK K; apply sK; intro K hK; apply sR; intro K hK; (iterate 3 (refine qr ?_)); refine s_nil (hK _ _ ?_); clear hK K)
  refine cs (fun hc => ?_) (fun hc => ?_)
  · (apply sR; intro K hK; refine qr ?_; refine s_nil (hK _ _ ?_); clear hK K; apply AWp_ret; simp only [AThen, ABlock]; apply end_ret; rfl; simp only [AFr.get, reduceIte, Nat.reduceEqDiff])
    exact finI h (by simp at hc; simp [cmp, hc])
  (refine AWp_skip (hK _ _ ?_); clear hK K; apply sK; intro K hK; apply sR; intro K hK; (iterate 3 (refine qr ?_)); refine s_nil (hK _ _ ?_); clear hK K)
  refine cs (fun hd => ?_) (fun hd => ?_)
  · (apply sR; intro K hK; refine qr ?_; refine s_nil (hK _ _ ?_); clear hK K; apply AWp_ret; simp only [AThen, ABlock]; apply end_ret; rfl; simp only [AFr.get, reduceIte, Nat.reduceEqDiff])
    exact finI h (by simp at hc hd; simp [cmp, hd]; omega)
  (refine AWp_skip (hK _ _ ?_); clear hK K; apply sR; intro K hK; refine qr ?_; refine s_nil (hK _ _ ?_); clear hK K; apply AWp_ret)
  exact finI h (by simp at hc hd; unfold cmp; rw [if_neg (by omega), if_neg (by omega)])
theorem compared_c (a b : Int) (H : AHeap) (K : AV → AHeap → Prop) (h : K (.v (.int .i64 (cmp a b))) H) : ACall X.dr 64 [.v (.int .i64 a), .v (.int .i64 b)] H K := by
  refine ACall_intro Tryz.func64 rfl (by kernel_rfl) (by rw [Tryz.ntmps64]; simp) ?_; rw [Tryz.ntmps64]; simp only [frame0, Nat.reduceAdd]
  (apply sR; intro K hK; refine qr ?_; refine s_nil (hK _ _ ?_); clear hK K; apply sR; intro K hK; refine qr ?_; apply s_call; decide; (iterate 2 (simp only [go_sem]; rfl)); apply isNaNd_c; refine qr ?_; refine s_nil (hK _ _ ?_); clear hK K; apply sR; intro K hK; refine qr ?_; apply s_call; decide; (iterate 2 (simp only [go_sem]; rfl)); apply isNaNd_c; refine qr ?_; refine s_nil (hK _ _ ?_); clear hK K; apply sK; intro K hK; apply sR; intro K hK; refine qr ?_; refine s_nil (hK _ _ ?_); clear hK K)
  refine cs (fun hc => ?_) (fun hc => ?_)
  · cases hc
  (refine AWp_skip (hK _ _ ?_); clear hK K; apply sK; intro K hK; apply sR; intro K hK; refine qr ?_; refine s_nil (hK _ _ ?_); clear hK K)
  refine cs (fun hc => ?_) (fun hc => ?_)
  · cases hc
  (refine AWp_skip (hK _ _ ?_); clear hK K; apply sK; intro K hK; apply sR; intro K hK; (iterate 3 (refine qr ?_)); refine s_nil (hK _ _ ?_); clear hK K)
  refine cs (fun hc => ?_) (fun hc => ?_)
  · (apply sR; intro K hK; refine qr ?_; refine s_nil (hK _ _ ?_); clear hK K; apply AWp_ret; simp only [AThen, ABlock]; apply end_ret; rfl; simp only [AFr.get, reduceIte, Nat.reduceEqDiff])
    exact finI h (by simp at hc; simp [cmp, hc])
  (refine AWp_skip (hK _ _ ?_); clear hK K; apply sK; intro K hK; apply sR; intro K hK; (iterate 3 (refine qr ?_)); refine s_nil (hK _ _ ?_); clear hK K)
  refine cs (fun hd => ?_) (fun hd => ?_)
  · (apply sR; intro K hK; refine qr ?_; refine s_nil (hK _ _ ?_); clear hK K; apply AWp_ret; simp only [AThen, ABlock]; apply end_ret; rfl; simp only [AFr.get, reduceIte, Nat.reduceEqDiff])
    exact finI h (by simp at hc hd; simp [cmp, hd]; omega)
  (refine AWp_skip (hK _ _ ?_); clear hK K; apply sR; intro K hK; refine qr ?_; refine s_nil (hK _ _ ?_); clear hK K; apply AWp_ret)
  exact finI h (by simp at hc hd; unfold cmp; rw [if_neg (by omega), if_neg (by omega)])
theorem ord_c (t : Bool) (l : List Int) (hl : l.length ≤ 1000) (H : AHeap) (K : AV → AHeap → Prop) (h : K (.v (.int .i64 (firstNZ l))) H) : ACall X.dr 87 [.sl t (l.map intCells)] H K := by
  refine ACall_intro Tryz.func87 rfl (by kernel_rfl) (by rw [Tryz.ntmps87]; simp) ?_; rw [Tryz.ntmps87]; simp only [frame0, Nat.reduceAdd]
  (apply sR; intro K hK; refine qr ?_; refine s_nil (hK _ _ ?_); clear hK K; apply sR; intro K hK; refine qr ?_; refine s_nil (hK _ _ ?_); clear hK K; apply sK; intro K hK; apply sR; intro K hK; (iterate 3 (refine qr ?_)); refine s_nil (hK _ _ ?_); clear hK K; apply AWp_block)
  refine AWp_loop_s (σ := Nat) [3, 6, 7, 8] (fun i => [.v (.int .i64 0), .sl t (l.map intCells), .v (.int .i64 l.length), .v (.int .i64 i)]) (fun _ => H) (fun i => l.length - i) (fun i => i ≤ l.length ∧ ∀ x ∈ l.take i, x = 0) 0 ⟨Nat.zero_le _, by simp⟩ rfl rfl (fun i hi => ?_)
  simp only [List.zip_cons_cons, List.zip_nil_right]
  (apply sR; intro K hK; refine qr ?_; refine s_nil (hK _ _ ?_); clear hK K; apply sK; intro K hK)
  refine cs (fun hc => ?_) (fun hc => ?_)
  · have hlt : i < l.length := by simpa using hc
    obtain ⟨a, hm⟩ : ∃ a, l[i]? = some a := ⟨_, List.getElem?_eq_getElem hlt⟩
    have hg : (l.map intCells)[i]? = some [.v (.int .i64 a)] := by rw [List.getElem?_map, hm]; rfl
    (refine AWp_skip (hK _ _ ?_); clear hK K; apply sK; intro K hK; apply AWp_block; apply sR; intro K hK; (iterate 3 (apply s_q; decide; rfl; (simp only [go_sem, hg]; rfl))); refine s_nil (hK _ _ ?_); clear hK K; apply sR; intro K hK; (iterate 3 (apply s_q; decide; rfl; (simp only [go_sem, hg]; rfl))); refine s_nil (hK _ _ ?_); clear hK K)
    refine cs (fun hd => ?_) (fun hd => ?_)
    · (apply sR; intro K hK; (iterate 2 (refine qr ?_)); refine s_nil (hK _ _ ?_); clear hK K; apply AWp_ret; simp only [AThen, ABlock]; apply end_ret; rfl; simp only [AFr.get, reduceIte, Nat.reduceEqDiff])
      exact finI h (firstNZ_take hm hi.2 (by simpa using hd)).symm
    · (refine AWp_skip (hK _ _ ?_); clear hK K; apply s_region; (iterate 2 (refine qr ?_)); apply s_nil; simp only [AThen, ABlock])
      refine ⟨i + 1, by omega, ⟨by omega, ?_⟩, ?_, by trivial⟩
      · rw [List.take_add_one, hm]
        intro x hx
        rw [List.mem_append] at hx
        rcases hx with hx | hx
        · exact hi.2 x hx
        · simp at hx hd; omega
      · simp only [getAll, List.map_cons, List.map_nil, AFr.get]
        rw [wrapS hlt (by omega)]; rfl
  · have hge : l.length ≤ i := by simpa using hc
    (apply AWp_exit; simp only [AThen, ABlock, reduceIte, Nat.reduceEqDiff]; clear hK K; refine hK _ _ ?_; clear hK K; apply sR; intro K hK; (iterate 2 (refine qr ?_)); refine s_nil (hK _ _ ?_); clear hK K; apply AWp_ret)
    exact finI h (firstNZ_all (fun x hx => hi.2 x (by rw [List.take_of_length_le hge]; exact hx))).symm
theorem or2d_c (a b : Int) (H : AHeap) (K : AV → AHeap → Prop) (h : K (.v (.int .i64 (firstNZ [a, b]))) H) : ACall X.dr 87 [.sl true [[.v (.int .i64 a)], [.v (.int .i64 b)]]] H K :=
  ord_c true [a, b] (by simp) H K h
theorem lessd_c (R : List Int) (a b : Nat) (ha : a < R.length) (hb : b < R.length) (H : AHeap) (K : AV → AHeap → Prop) (h : K (.v (.int .i64 (lessI R a b))) H) :
    ACall X.dr 86 [.v (.int .i64 a), .v (.int .i64 b), .fp [.sl false (R.map intCells)]] H K := by
  obtain ⟨x, hx⟩ := gete ha
  obtain ⟨y, hy⟩ := gete hb
  have hgx := int_at hx
  have hgy := int_at hy
  rw [lessI, List.getD_eq_getElem?_getD, hx, List.getD_eq_getElem?_getD, hy, Option.getD_some, Option.getD_some] at h
  refine ACall_intro Tryz.func86 rfl (by kernel_rfl) (by rw [Tryz.ntmps86]; simp) ?_; rw [Tryz.ntmps86]; simp only [frame0, Nat.reduceAdd]
  (apply sR; intro K hK; refine qr ?_; refine s_nil (hK _ _ ?_); clear hK K; apply sK; intro K hK)
  apply AWp_drawA [0, 1, 2, 3, 4, 5, 6, 7, 8, 9, 10, 11, 12, 13, 14] [] 0 (by exact mixed); kernel_rfl; (iterate 2 (simp only [go_sem]; rfl))
  ((iterate 8 (apply e_q; decide; (simp only [go_sem, hgx, hgy]; rfl))); apply e_call; decide; (iterate 2 (simp only [go_sem, hgx, hgy]; rfl)); (apply compare64d_c; exact ⟨rfl, rfl⟩); (iterate 2 (apply e_q; decide; (simp only [go_sem, hgx, hgy]; rfl))); apply e_call; decide; (iterate 2 (simp only [go_sem, hgx, hgy]; rfl)); (apply compared_c; exact ⟨rfl, rfl⟩); apply e_lit; decide; exact el_38; (iterate 2 (simp only [go_sem, hgx, hgy]; rfl)); decide; apply e_call; decide; (iterate 2 (simp only [go_sem, hgx, hgy]; rfl)); (apply or2d_c; exact ⟨rfl, rfl⟩); apply e_q; decide; (simp only [go_sem, hgx, hgy]; rfl); apply e_nil; refine t_nil (hK _ _ ?_); clear hK K; apply AWp_ret)
  exact h

theorem search_c (R : List Int) (l : List Nat) (k m : Nat) (s : AV) (hR : ∀ x ∈ l, x < R.length) (hk : k < R.length) (hl : l.length ≤ 1000000) (H : AHeap) (L : List Int) (hL : L = l.map Int.ofNat) (hs : Arr H L s) (hml : m ≤ l.length)
    (h1 : ∀ j x, j < m → l[j]? = some x → lessI R x k < 0) (h2 : ∀ j x, m ≤ j → l[j]? = some x → ¬ lessI R x k < 0) (K : AV → AHeap → Prop) (h : ∀ f, K (.tup [.v (.int .i64 m), .v (.bool f)]) H) :
    ACall X 88 [s, .v (.int .i64 k), .fn (.func 86) [] [.fp [.sl false (R.map intCells)]]] H K := by
  have hLl : L.length = l.length := by rw [hL, List.length_map]
  refine ACall_intro Tryz.func88 rfl (by kernel_rfl) (by rw [Tryz.ntmps88]; simp) ?_; rw [Tryz.ntmps88]; simp only [frame0, Nat.reduceAdd]
  (apply sR; intro K hK; (iterate 2 (refine qr ?_)); refine s_nil (hK _ _ ?_); clear hK K; apply sR; intro K hK; refine qr ?_; (apply s_q; decide; rfl; (simp only [go_sem]; exact hs.len _)); refine qr ?_; refine s_nil (hK _ _ ?_); clear hK K; apply sR; intro K hK; (iterate 3 (refine qr ?_)); refine s_nil (hK _ _ ?_); clear hK K; apply sK; intro K hK; apply AWp_block)
  refine AWp_loop_s (σ := Nat × Nat) [0, 1, 2, 8, 9, 10] (fun s' => [s, .v (.int .i64 k), .fn (.func 86) [] [.fp [.sl false (R.map intCells)]], .v (.int .i64 (L.length : Nat)), .v (.int .i64 s'.1), .v (.int .i64 s'.2)]) (fun _ => H) (fun s' => s'.2 - s'.1)
    (fun s' => s'.1 ≤ m ∧ m ≤ s'.2 ∧ s'.2 ≤ l.length) (0, l.length) ⟨Nat.zero_le _, hml, Nat.le_refl _⟩ (by simp [getAll, AFr.get, hLl]) rfl (fun s' hs' => ?_)
  obtain ⟨i, j⟩ := s'
  obtain ⟨hi, hj, hjl⟩ := hs'
  simp only [List.zip_cons_cons, List.zip_nil_right] at hi hj hjl ⊢
  (apply sK; intro K hK; apply sR; intro K hK; (iterate 3 (refine qr ?_)); refine s_nil (hK _ _ ?_); clear hK K)
  refine cs (fun hd => ?_) (fun hd => ?_)
  · have hij : i < j := by simpa using hd
    obtain ⟨x, hx⟩ := gete (l := l) (i := (i + j) / 2) (by omega)
    have hxm := hR x (List.mem_of_getElem? hx)
    have hx' : L[(i + j) / 2]? = some (x : Int) := by rw [hL, List.getElem?_map, hx]; rfl
    obtain ⟨p, hp, hpc⟩ := hs.at_ hx'
    have e1 : IntKind.i64.wrap ((i : Int) + (j : Int)) = ((i + j : Nat) : Int) := by rw [wrap64 (by omega)]; omega
    have e2 : IntKind.u64.wrap ((i + j : Nat) : Int) = ((i + j : Nat) : Int) := by simp [IntKind.wrap, IntKind.signed, IntKind.bits]; omega
    have e3 : Int.fdiv ((i + j : Nat) : Int) (2 ^ min 1 64) = (((i + j) / 2 : Nat) : Int) := by
      rw [show (2 : Int) ^ min 1 64 = ((2 : Nat) : Int) from rfl, ← Int.ofNat_fdiv]
    have e4 : IntKind.i64.wrap (((i + j) / 2 : Nat) : Int) = (((i + j) / 2 : Nat) : Int) := wrap64 (by omega)
    (refine AWp_skip (hK _ _ ?_); clear hK K; apply AWp_block; apply sR; intro K hK; (iterate 7 (apply s_q; decide; rfl; (simp only [go_sem, e1, e2, e3, e4]; rfl))); refine s_nil (hK _ _ ?_); clear hK K; apply sR; intro K hK; (iterate 3 (apply s_q; decide; rfl; (simp only [go_sem, e1, e2, e3, e4]; rfl))))
    apply s_q; decide; rfl; (simp only [pvK, AFr.ev, AFr.get, reduceIte, Nat.reduceEqDiff, tk_38]; exact hp)
    apply s_q; decide; rfl; (simp only [pvK, AFr.ev, AFr.get, reduceIte, Nat.reduceEqDiff, lay_3, hpc, Option.bind_some, ldK]; rfl)
    (refine qr ?_; apply s_call; decide; (iterate 2 (simp only [go_sem]; rfl)); apply less_c R x k hxm hk; refine qr ?_; refine s_nil (hK _ _ ?_); clear hK K)
    refine cs (fun he => ?_) (fun he => ?_)
    · have he : lessI R x k < 0 := by simpa using he
      have hlt : (i + j) / 2 < m := by
        rcases Nat.lt_or_ge ((i + j) / 2) m with h3 | h3
        · exact h3
        · exact absurd he (h2 _ _ h3 hx)
      have e5 : IntKind.i64.wrap ((((i + j) / 2 : Nat) : Int) + 1) = (((i + j) / 2 + 1 : Nat) : Int) := by rw [wrap64 (by omega)]; omega
      (apply s_region; (iterate 3 (refine qr ?_)); apply s_nil; simp only [AThen, ABlock])
      refine ⟨((i + j) / 2 + 1, j), by simp only; omega, ⟨by simp only; omega, hj, hjl⟩, ?_, by trivial⟩
      simp only [getAll, List.map, AFr.get, reduceIte, Nat.reduceEqDiff]
      rw [e5]
    · have he : ¬ lessI R x k < 0 := by simpa using he
      have hge : m ≤ (i + j) / 2 := by
        rcases Nat.lt_or_ge ((i + j) / 2) m with h3 | h3
        · exact absurd (h1 _ _ h3 hx) he
        · exact h3
      (apply s_region; (iterate 2 (refine qr ?_)); apply s_nil; simp only [AThen, ABlock])
      refine ⟨(i, (i + j) / 2), by simp only; omega, ⟨hi, hge, by simp only; omega⟩, ?_, by trivial⟩
      simp only [getAll, List.map, AFr.get, reduceIte, Nat.reduceEqDiff]
  · have hge : ¬ i < j := by simpa using hd
    have him : i = m := by omega
    subst him
    by_cases hin : i < l.length
    · obtain ⟨x, hx⟩ := gete hin
      have hxm := hR x (List.mem_of_getElem? hx)
      have hx' : L[i]? = some (x : Int) := by rw [hL, List.getElem?_map, hx]; rfl
      have hgx := int_at hx'
      have hlt3 : ((i : Int) < (L.length : Int)) = True := by simp; omega
      have hlt2 : ((i : Int) < (L.length : Int) ∧ 1 = 1) = True := by simp; omega
      have hc0 : decide ((i : Int) < (L.length : Int)) = true := by simp; omega
      rcases hs with ⟨t, rfl⟩ | ⟨b0, sn, rfl, hb0⟩ | ⟨b0, sn, pre, rfl, hb0⟩
      · (apply AWp_exit; simp only [AThen, ABlock, reduceIte, Nat.reduceEqDiff]; clear hK K; refine hK _ _ ?_; clear hK K; apply sR; intro K hK; (iterate 5 (apply s_q; decide; rfl; (simp only [go_sem, hgx]; rfl))); (iterate 3 (apply s_spec; decide; rfl; rfl; (iterate 4 (simp only [go_sem, hgx]; rfl)); trivial)); apply s_when; decide; (iterate 3 (simp only [go_sem, hgx]; rfl)); simp [condsOk]; (intro hg; simp only [go_sem, hgx]; try rfl); apply s_spec; decide; rfl; rfl; (iterate 4 (simp only [go_sem, hgx]; rfl)); simp [condsOk]; apply s_spec; decide; rfl; rfl; (iterate 4 (simp only [go_sem, hgx]; rfl)); trivial; apply s_gpure; decide; (iterate 3 (simp only [go_sem, hgx]; rfl)); simp [condsOk]; (iterate 2 (simp only [go_sem, hgx]; rfl)); (apply less_c R x k hxm hk; exact ⟨rfl, rfl⟩); apply s_spec; decide; rfl; rfl; (iterate 4 (simp only [go_sem, hgx]; rfl)); simp [condsOk]; apply s_pick; decide; (iterate 6 (simp only [go_sem, hgx]; rfl)); trivial; simp [condsOk]; trivial; (iterate 2 (apply s_q; decide; rfl; (simp only [go_sem, hgx]; rfl))); refine s_nil (hK _ _ ?_); clear hK K; apply AWp_ret)
        exact h _
      · (apply AWp_exit; simp only [AThen, ABlock, reduceIte, Nat.reduceEqDiff]; clear hK K; refine hK _ _ ?_; clear hK K; apply sR; intro K hK; (iterate 5 (apply s_q; decide; rfl; (simp only [go_sem, hgx, hlt2, hb0]; rfl))); (iterate 3 (apply s_spec; decide; rfl; rfl; (iterate 4 (simp only [go_sem, hgx, hlt2, hb0]; rfl)); trivial)); apply s_when; decide; (iterate 3 (simp only [go_sem, hgx, hlt2, hb0]; rfl)); simp [condsOk]; (intro hg; (first | ((simp only [go_sem, hlt3, if_true]; done)) | ((simp only [go_sem, hlt3, if_true]; rfl)) | ((simp only [go_sem, hb0, hgx]; done)) | ((simp only [go_sem, hb0, hgx]; rfl)))); apply s_spec; decide; rfl; rfl; (iterate 4 (simp only [go_sem, hgx, hlt2, hb0]; rfl)); simp [condsOk]; apply s_spec; decide; rfl; rfl; (iterate 4 (simp only [go_sem, hgx, hlt2, hb0]; rfl)); trivial; apply s_gpure; decide; (iterate 3 (simp only [go_sem, hgx, hlt2, hb0]; rfl)); simp [condsOk]; (iterate 2 (simp only [go_sem, hgx, hlt2, hb0]; rfl)); (apply less_c R x k hxm hk; exact ⟨rfl, rfl⟩); apply s_spec; decide; rfl; rfl; (iterate 4 (simp only [go_sem, hgx, hlt2, hb0]; rfl)); simp [condsOk]; apply s_pick; decide; (iterate 6 (simp only [go_sem, hgx, hlt2, hb0]; rfl)); trivial; simp [condsOk]; trivial; (iterate 2 (apply s_q; decide; rfl; (simp only [go_sem, hgx, hlt2, hb0]; rfl))); refine s_nil (hK _ _ ?_); clear hK K; apply AWp_ret)
        exact h _
      · have e : (pre ++ L.map intCells)[pre.length + i]? = some [.v (.int .i64 (x : Int))] := by
          rw [List.getElem?_append_right (Nat.le_add_right _ _), Nat.add_sub_cancel_left]; exact hgx
        (apply AWp_exit; simp only [AThen, ABlock, reduceIte, Nat.reduceEqDiff]; clear hK K; refine hK _ _ ?_; clear hK K; apply sR; intro K hK; (iterate 5 (apply s_q; decide; rfl; (simp only [go_sem, hgx, hlt2, hb0, e]; rfl))); (iterate 3 (apply s_spec; decide; rfl; rfl; (iterate 4 (simp only [go_sem, hgx, hlt2, hb0, e]; rfl)); trivial)); apply s_when; decide; (iterate 3 (simp only [go_sem, hgx, hlt2, hb0, e]; rfl)); simp [condsOk]; (intro hg; (first | ((simp only [go_sem, hlt3, if_true]; done)) | ((simp only [go_sem, hlt3, if_true]; rfl)) | ((simp only [go_sem, hb0, e]; done)) | ((simp only [go_sem, hb0, e]; rfl)))); apply s_spec; decide; rfl; rfl; (iterate 4 (simp only [go_sem, hgx, hlt2, hb0, e]; rfl)); simp [condsOk]; apply s_spec; decide; rfl; rfl; (iterate 4 (simp only [go_sem, hgx, hlt2, hb0, e]; rfl)); trivial; apply s_gpure; decide; (iterate 3 (simp only [go_sem, hgx, hlt2, hb0, e]; rfl)); simp [condsOk]; (iterate 2 (simp only [go_sem, hgx, hlt2, hb0, e]; rfl)); (apply less_c R x k hxm hk; exact ⟨rfl, rfl⟩); apply s_spec; decide; rfl; rfl; (iterate 4 (simp only [go_sem, hgx, hlt2, hb0, e]; rfl)); simp [condsOk]; apply s_pick; decide; (iterate 6 (simp only [go_sem, hgx, hlt2, hb0, e]; rfl)); trivial; simp [condsOk]; trivial; (iterate 2 (apply s_q; decide; rfl; (simp only [go_sem, hgx, hlt2, hb0, e]; rfl))); refine s_nil (hK _ _ ?_); clear hK K; apply AWp_ret)
        exact h _
    · have hc0 : decide ((i : Int) < (L.length : Int)) = false := by simp; omega
      rcases hs with ⟨t, rfl⟩ | ⟨b0, sn, rfl, hb0⟩ | ⟨b0, sn, pre, rfl, hb0⟩
      · (apply AWp_exit; simp only [AThen, ABlock, reduceIte, Nat.reduceEqDiff]; clear hK K; refine hK _ _ ?_; clear hK K; apply sR; intro K hK; (iterate 5 (apply s_q; decide; rfl; (simp only [go_sem, hc0]; rfl))); (iterate 3 (apply s_spec; decide; rfl; rfl; (iterate 4 (simp only [go_sem, hc0]; rfl)); trivial)); (iterate 2 (apply s_when (av := (.v (.bool false))); decide; (iterate 3 (simp only [go_sem, hc0]; rfl)); trivial; (focus (intro hg; first | (cases hg; done) | (simp at hg; done) | (simp at hg; omega))))); apply s_spec; decide; rfl; rfl; (iterate 4 (simp only [go_sem, hc0]; rfl)); trivial; (iterate 2 (apply s_when (av := (.v (.bool false))); decide; (iterate 3 (simp only [go_sem, hc0]; rfl)); trivial; (focus (intro hg; first | (cases hg; done) | (simp at hg; done) | (simp at hg; omega))))); apply s_pick; decide; (iterate 6 (simp only [go_sem, hc0]; rfl)); trivial; trivial; trivial; (iterate 2 (apply s_q; decide; rfl; (simp only [go_sem, hc0]; rfl))); refine s_nil (hK _ _ ?_); clear hK K; apply AWp_ret)
        exact h _
      · (apply AWp_exit; simp only [AThen, ABlock, reduceIte, Nat.reduceEqDiff]; clear hK K; refine hK _ _ ?_; clear hK K; apply sR; intro K hK; (iterate 5 (apply s_q; decide; rfl; (simp only [go_sem, hc0]; rfl))); (iterate 3 (apply s_spec; decide; rfl; rfl; (iterate 4 (simp only [go_sem, hc0]; rfl)); trivial)); (iterate 2 (apply s_when (av := (.v (.bool false))); decide; (iterate 3 (simp only [go_sem, hc0]; rfl)); trivial; (focus (intro hg; first | (cases hg; done) | (simp at hg; done) | (simp at hg; omega))))); apply s_spec; decide; rfl; rfl; (iterate 4 (simp only [go_sem, hc0]; rfl)); trivial; (iterate 2 (apply s_when (av := (.v (.bool false))); decide; (iterate 3 (simp only [go_sem, hc0]; rfl)); trivial; (focus (intro hg; first | (cases hg; done) | (simp at hg; done) | (simp at hg; omega))))); apply s_pick; decide; (iterate 6 (simp only [go_sem, hc0]; rfl)); trivial; trivial; trivial; (iterate 2 (apply s_q; decide; rfl; (simp only [go_sem, hc0]; rfl))); refine s_nil (hK _ _ ?_); clear hK K; apply AWp_ret)
        exact h _
      · (apply AWp_exit; simp only [AThen, ABlock, reduceIte, Nat.reduceEqDiff]; clear hK K; refine hK _ _ ?_; clear hK K; apply sR; intro K hK; (iterate 5 (apply s_q; decide; rfl; (simp only [go_sem, hc0]; rfl))); (iterate 3 (apply s_spec; decide; rfl; rfl; (iterate 4 (simp only [go_sem, hc0]; rfl)); trivial)); (iterate 2 (apply s_when (av := (.v (.bool false))); decide; (iterate 3 (simp only [go_sem, hc0]; rfl)); trivial; (focus (intro hg; first | (cases hg; done) | (simp at hg; done) | (simp at hg; omega))))); apply s_spec; decide; rfl; rfl; (iterate 4 (simp only [go_sem, hc0]; rfl)); trivial; (iterate 2 (apply s_when (av := (.v (.bool false))); decide; (iterate 3 (simp only [go_sem, hc0]; rfl)); trivial; (focus (intro hg; first | (cases hg; done) | (simp at hg; done) | (simp at hg; omega))))); apply s_pick; decide; (iterate 6 (simp only [go_sem, hc0]; rfl)); trivial; trivial; trivial; (iterate 2 (apply s_q; decide; rfl; (simp only [go_sem, hc0]; rfl))); refine s_nil (hK _ _ ?_); clear hK K; apply AWp_ret)
        exact h _

theorem isNaNs_d (a : List UInt8) (H : AHeap) (K : AV → AHeap → Prop) (h : K (.v (.bool false)) H) : ACall X.dr 110 [.s a] H K := by
  refine ACall_intro Tryz.func110 rfl (by kernel_rfl) (by rw [Tryz.ntmps110]; simp) ?_; rw [Tryz.ntmps110]; simp only [frame0, Nat.reduceAdd]
  (apply sR; intro K hK; refine qr ?_; refine s_nil (hK _ _ ?_); clear hK K; apply sR; intro K hK; (iterate 4 (refine qr ?_)); refine s_nil (hK _ _ ?_); clear hK K; apply AWp_ret)
  refine finB h ?_
  simp
theorem compares_d (a b : List UInt8) (H : AHeap) (K : AV → AHeap → Prop) (h : K (.v (.int .i64 (cmpS a b))) H) : ACall X.dr 83 [.s a, .s b] H K := by
  refine ACall_intro Tryz.func83 rfl (by kernel_rfl) (by rw [Tryz.ntmps83]; simp) ?_; rw [Tryz.ntmps83]; simp only [frame0, Nat.reduceAdd]
  (apply sR; intro K hK; refine qr ?_; refine s_nil (hK _ _ ?_); clear hK K; apply sR; intro K hK; refine qr ?_; apply s_call; decide; (iterate 2 (simp only [go_sem]; rfl)); apply isNaNs_d; refine qr ?_; refine s_nil (hK _ _ ?_); clear hK K; apply sR; intro K hK; refine qr ?_; apply s_call; decide; (iterate 2 (simp only [go_sem]; rfl)); apply isNaNs_d; refine qr ?_; refine s_nil (hK _ _ ?_); clear hK K; apply sK; intro K hK; apply sR; intro K hK; refine qr ?_; refine s_nil (hK _ _ ?_); clear hK K)
  refine cs (fun hc => ?_) (fun hc => ?_)
  · cases hc
  (refine AWp_skip (hK _ _ ?_); clear hK K; apply sK; intro K hK; apply sR; intro K hK; refine qr ?_; refine s_nil (hK _ _ ?_); clear hK K)
  refine cs (fun hc => ?_) (fun hc => ?_)
  · cases hc
  (refine AWp_skip (hK _ _ ?_); clear hK K; apply sK; intro K hK; apply sR; intro K hK; (iterate 3 (refine qr ?_)); refine s_nil (hK _ _ ?_); clear hK K)
  refine cs (fun hc => ?_) (fun hc => ?_)
  · rw [blt_eq] at hc
    (apply sR; intro K hK; refine qr ?_; refine s_nil (hK _ _ ?_); clear hK K; apply AWp_ret; simp only [AThen, ABlock]; apply end_ret; rfl; simp only [AFr.get, reduceIte, Nat.reduceEqDiff])
    exact finI h (by rw [cmpS, if_pos (by simpa using hc)])
  rw [blt_eq] at hc
  (refine AWp_skip (hK _ _ ?_); clear hK K; apply sK; intro K hK; apply sR; intro K hK; (iterate 3 (refine qr ?_)); refine s_nil (hK _ _ ?_); clear hK K)
  refine cs (fun hd => ?_) (fun hd => ?_)
  · rw [gtr_eq] at hd
    (apply sR; intro K hK; refine qr ?_; refine s_nil (hK _ _ ?_); clear hK K; apply AWp_ret; simp only [AThen, ABlock]; apply end_ret; rfl; simp only [AFr.get, reduceIte, Nat.reduceEqDiff])
    exact finI h (by rw [cmpS, if_neg (of_decide_eq_false hc), if_pos (of_decide_eq_true hd)])
  rw [gtr_eq] at hd
  (refine AWp_skip (hK _ _ ?_); clear hK K; apply sR; intro K hK; refine qr ?_; refine s_nil (hK _ _ ?_); clear hK K; apply AWp_ret)
  exact finI h (by rw [cmpS, if_neg (of_decide_eq_false hc), if_neg (of_decide_eq_false hd)])
def idxI (p : Int → Bool) (l : List Int) : Int := match l.findIdx? p with | some i => i | none => -1
theorem idx_take {p : Int → Bool} {l : List Int} {i : Nat} {x : Int} (hx : l[i]? = some x) (h : ∀ y ∈ l.take i, p y = false) (e : p x = true) : idxI p l = i := by
  have hi := (List.getElem?_eq_some_iff.1 hx).1
  have : l.findIdx? p = some i := by
    rw [List.findIdx?_eq_some_iff_getElem]
    refine ⟨hi, by rw [(List.getElem?_eq_some_iff.1 hx).2]; exact e, fun j hj => ?_⟩
    have := h l[j] (List.mem_take_iff_getElem.2 ⟨j, by omega, rfl⟩)
    simpa using this
  rw [idxI, this]
theorem idx_none {p : Int → Bool} {l : List Int} (h : ∀ y ∈ l, p y = false) : idxI p l = -1 := by
  have : l.findIdx? p = none := by
    rw [List.findIdx?_eq_none_iff]
    intro y hy; rw [h y hy]
  rw [idxI, this]
theorem indexFuncI_c (g : FuncId) (cap : List AV) (pr : Int → Bool) (s : AV) (l : List Int) (hl : l.length ≤ 1000000) (H : AHeap) (hs : Arr H l s) (hg : ∀ x ∈ l, ∀ K : AV → AHeap → Prop, K (.v (.bool (pr x))) H → ACall X.dr g ([.v (.int .i64 x)] ++ cap) H K) (K : AV → AHeap → Prop)
    (h : K (.v (.int .i64 (idxI pr l))) H) : ACall X.dr 80 [s, .fn (.func g) [] cap] H K := by
  refine ACall_intro Tryz.func80 rfl (by kernel_rfl) (by rw [Tryz.ntmps80]; simp) ?_; rw [Tryz.ntmps80]; simp only [frame0, Nat.reduceAdd]
  (apply sR; intro K hK; refine qr ?_; refine s_nil (hK _ _ ?_); clear hK K; apply sK; intro K hK; apply sR; intro K hK; refine qr ?_; (apply s_q; decide; rfl; (simp only [go_sem]; exact hs.len _)); refine qr ?_; refine s_nil (hK _ _ ?_); clear hK K; apply AWp_block)
  refine AWp_loop_s (σ := Nat) [0, 1, 7, 8] (fun i => [s, .fn (.func g) [] cap, .v (.int .i64 (l.length : Nat)), .v (.int .i64 i)]) (fun _ => H) (fun i => l.length - i) (fun i => i ≤ l.length ∧ ∀ y ∈ l.take i, pr y = false) 0 ⟨Nat.zero_le _, by simp⟩ rfl rfl (fun i hi => ?_)
  simp only [List.zip_cons_cons, List.zip_nil_right]
  (apply sR; intro K hK; refine qr ?_; refine s_nil (hK _ _ ?_); clear hK K; apply sK; intro K hK)
  refine cs (fun hd => ?_) (fun hd => ?_)
  · have hlt : i < l.length := by simpa using hd
    obtain ⟨a, ha⟩ := gete hlt
    obtain ⟨p, hp, hpc⟩ := hs.at_ ha
    have hga := hg a (List.mem_of_getElem? ha)
    (refine AWp_skip (hK _ _ ?_); clear hK K; apply sK; intro K hK; apply AWp_block; apply sR; intro K hK; (iterate 2 (refine qr ?_)); refine s_nil (hK _ _ ?_); clear hK K; apply sR; intro K hK; (iterate 3 (refine qr ?_)))
    apply s_q; decide; rfl; (simp only [pvK, AFr.ev, AFr.get, reduceIte, Nat.reduceEqDiff, tk_38]; exact hp)
    apply s_q; decide; rfl; (simp only [pvK, AFr.ev, AFr.get, reduceIte, Nat.reduceEqDiff, lay_3, hpc, Option.bind_some, ldK]; rfl)
    (apply s_call; decide; (iterate 2 (simp only [go_sem]; rfl)); apply hga; refine s_nil (hK _ _ ?_); clear hK K)
    refine cs (fun he => ?_) (fun he => ?_)
    · (apply sR; intro K hK; (iterate 2 (refine qr ?_)); refine s_nil (hK _ _ ?_); clear hK K; apply AWp_ret; simp only [AThen, ABlock]; apply end_ret; rfl; simp only [AFr.get, reduceIte, Nat.reduceEqDiff])
      exact finI h (idx_take ha hi.2 he).symm
    · (refine AWp_skip (hK _ _ ?_); clear hK K; apply s_region; (iterate 2 (refine qr ?_)); apply s_nil; simp only [AThen, ABlock])
      refine ⟨i + 1, by omega, ⟨by omega, fun y hy => ?_⟩, ?_, by trivial⟩
      · rcases take_mem_succ ha hy with h1 | rfl
        · exact hi.2 y h1
        · exact he
      · simp only [getAll, List.map, AFr.get, reduceIte, Nat.reduceEqDiff]
        rw [wrapS hlt (by omega)]; try rfl
  · have hge : l.length ≤ i := by simpa using hd
    (apply AWp_exit; simp only [AThen, ABlock, reduceIte, Nat.reduceEqDiff]; clear hK K; refine hK _ _ ?_; clear hK K; apply sR; intro K hK; refine qr ?_; refine s_nil (hK _ _ ?_); clear hK K; apply AWp_ret)
    exact finI h (idx_none (fun y hy => hi.2 y (by rw [List.take_of_length_le hge]; exact hy))).symm
theorem nz_c (n : Int) (H : AHeap) (K : AV → AHeap → Prop) (h : K (.v (.bool (decide (n ≠ 0)))) H) : ACall X.dr 81 [.v (.int .i64 n)] H K := by
  refine ACall_intro Tryz.func81 rfl (by kernel_rfl) (by rw [Tryz.ntmps81]; simp) ?_; rw [Tryz.ntmps81]; simp only [frame0, Nat.reduceAdd]
  (apply sR; intro K hK; refine qr ?_; refine s_nil (hK _ _ ?_); clear hK K; apply sR; intro K hK; (iterate 3 (refine qr ?_)); refine s_nil (hK _ _ ?_); clear hK K; apply AWp_ret)
  exact finB h (by by_cases e : n = 0 <;> simp [e])
theorem idx_nz : ∀ (l : List Int), (idxI (fun n => decide (n ≠ 0)) l = -1 ∧ firstNZ l = 0) ∨ ∃ (i : Nat) (x : Int), idxI (fun n => decide (n ≠ 0)) l = i ∧ l[i]? = some x ∧ firstNZ l = x := fun l => by
  cases h : l.findIdx? (fun n => decide (n ≠ 0)) with
  | none =>
    left
    rw [List.findIdx?_eq_none_iff] at h
    exact ⟨idx_none h, firstNZ_all (fun x hx => by simpa using h x hx)⟩
  | some i =>
    right
    rw [List.findIdx?_eq_some_iff_getElem] at h
    obtain ⟨hi, h1, h2⟩ := h
    have hno : ∀ y ∈ l.take i, decide (y ≠ 0) = false := fun y hy => by
      obtain ⟨j, hj, rfl⟩ := List.mem_take_iff_getElem.1 hy
      simpa using h2 j (by omega)
    exact ⟨i, l[i], idx_take (List.getElem?_eq_getElem hi) hno h1, List.getElem?_eq_getElem hi, firstNZ_take (List.getElem?_eq_getElem hi) (fun x hx => by simpa using hno x hx) (by simpa using h1)⟩
theorem sign_c (l : List Int) (hl : l.length ≤ 1000) (H : AHeap) (K : AV → AHeap → Prop) (h : K (.v (.int .i64 (firstNZ l))) H) : ACall X.dr 47 [.sl true (l.map intCells)] H K := by
  have hI : ∀ K : AV → AHeap → Prop, K (.v (.int .i64 (idxI (fun n => decide (n ≠ 0)) l))) H → ACall X.dr 80 [.sl true (l.map intCells), .fn (.func 81) [] []] H K := fun K hK =>
    indexFuncI_c 81 [] (fun n => decide (n ≠ 0)) _ l (by omega) H (.inl ⟨true, rfl⟩) (fun x _ K hK => nz_c x H K hK) K hK
  refine ACall_intro Tryz.func47 rfl (by kernel_rfl) (by rw [Tryz.ntmps47]; simp) ?_; rw [Tryz.ntmps47]; simp only [frame0, Nat.reduceAdd]
  (apply sR; intro K hK; refine qr ?_; refine s_nil (hK _ _ ?_); clear hK K; apply sR; intro K hK; refine qr ?_; apply s_call; decide; (iterate 2 (simp only [go_sem]; rfl)); apply hI; refine qr ?_; refine s_nil (hK _ _ ?_); clear hK K; apply sK; intro K hK; apply sR; intro K hK; (iterate 2 (refine qr ?_)); refine s_nil (hK _ _ ?_); clear hK K)
  rcases idx_nz l with ⟨h1, h2⟩ | ⟨i, x, h1, h2, h3⟩
  · rw [h2] at h
    rw [h1]
    skip
    refine cs (fun hz => ?_) (fun hz => ?_)
    rotate_left
    · cases hz
    (apply sR; intro K hK; refine qr ?_; refine s_nil (hK _ _ ?_); clear hK K; apply AWp_ret; simp only [AThen, ABlock]; apply end_ret; rfl; simp only [AFr.get, reduceIte, Nat.reduceEqDiff])
    exact h
  · rw [h3] at h
    rw [h1]
    have hgx := int_at h2
    skip
    refine cs (fun hz => ?_) (fun hz => ?_)
    · simp at hz; omega
    (refine AWp_skip (hK _ _ ?_); clear hK K; apply sR; intro K hK; (iterate 5 (apply s_q; decide; rfl; (simp only [go_sem, hgx]; rfl))); refine s_nil (hK _ _ ?_); clear hK K; apply AWp_ret)
    exact h
theorem sign2_c (a b : Int) (H : AHeap) (K : AV → AHeap → Prop) (h : K (.v (.int .i64 (firstNZ [a, b]))) H) : ACall X.dr 47 [.sl true [[.v (.int .i64 a)], [.v (.int .i64 b)]]] H K := sign_c [a, b] (by simp) H K h
theorem sign3_c (a b c : Int) (H : AHeap) (K : AV → AHeap → Prop) (h : K (.v (.int .i64 (firstNZ [a, b, c]))) H) : ACall X.dr 47 [.sl true [[.v (.int .i64 a)], [.v (.int .i64 b)], [.v (.int .i64 c)]]] H K := sign_c [a, b, c] (by simp) H K h
def nmAt (p : Pa) (i : Nat) : List UInt8 := p.names.getD i []
def ageI (p : Pa) (a b : Nat) : Int := firstNZ [cmp (evAt p a).ts (evAt p b).ts, cmpS (nmAt p a) (nmAt p b), cmp a b]
set_option maxHeartbeats 4000000 in
theorem age_c (p : Pa) (hr : p.Right) (a b : Nat) (ha : a < p.events.length) (hb : b < p.events.length) (H : AHeap) (K : AV → AHeap → Prop) (h : K (.v (.int .i64 (ageI p a b))) H) : ACall X.dr 49 [.agg p.cells, .v (.int .i64 a), .v (.int .i64 b)] H K := by
  obtain ⟨e, he⟩ := gete ha
  obtain ⟨f, hf⟩ := gete hb
  have hge := ev_at he
  have hgf := ev_at hf
  obtain ⟨m, hm⟩ := gete (l := p.names) (i := a) (by have := hr.nm; omega)
  obtain ⟨n, hn⟩ := gete (l := p.names) (i := b) (by have := hr.nm; omega)
  have hgm := estr_at hm
  have hgn := estr_at hn
  have e1 : evAt p a = e := by rw [evAt, Int.toNat_natCast]; exact getD_some he
  have e2 : evAt p b = f := by rw [evAt, Int.toNat_natCast]; exact getD_some hf
  have e3 : nmAt p a = m := getD_some hm
  have e4 : nmAt p b = n := getD_some hn
  rw [ageI, e1, e2, e3, e4] at h
  refine ACall.drop ?_
  rw [Pa.cells]
  refine ACall_intro Tryz.func49 rfl (by kernel_rfl) (by rw [Tryz.ntmps49]; simp) ?_; rw [Tryz.ntmps49]; simp only [frame0, Nat.reduceAdd]
  apply sR; intro K hK
  apply s_box; decide; exact (by simp only [go_sem]; try rfl); exact (by simp only [go_sem]; try rfl); intro q hq
  generalize hgenq : AHeap.put q _ H = M; obtain ⟨g1, hextq⟩ := gen_ex hgenq hq; have hE := hextq; clear hextq hgenq
  (refine qr ?_; refine s_nil (hK _ _ ?_); clear hK K; apply sK; intro K hK)
  apply AWp_drawA [0, 1, 2, 3, 4, 5, 6, 7, 8, 9, 10, 11, 12, 13, 14, 15, 16, 17, 18, 19, 20, 21, 22, 23, 24, 25, 26, 27, 28, 29] [] 0 (by exact mixed); kernel_rfl; (iterate 2 (simp only [go_sem]; rfl))
  ((iterate 12 (apply e_q; decide; (simp only [go_sem, g1, hge, hgf, hgm, hgn]; rfl))); apply e_call; decide; (iterate 2 (simp only [go_sem, g1, hge, hgf, hgm, hgn]; rfl)); (apply compare64d_c; exact ⟨rfl, rfl⟩); (iterate 10 (apply e_q; decide; (simp only [go_sem, g1, hge, hgf, hgm, hgn]; rfl))); apply e_call; decide; (iterate 2 (simp only [go_sem, g1, hge, hgf, hgm, hgn]; rfl)); (apply compares_d; exact ⟨rfl, rfl⟩); (iterate 2 (apply e_q; decide; (simp only [go_sem, g1, hge, hgf, hgm, hgn]; rfl))); apply e_call; decide; (iterate 2 (simp only [go_sem, g1, hge, hgf, hgm, hgn]; rfl)); (apply compared_c; exact ⟨rfl, rfl⟩); apply e_lit; decide; exact el_38; (iterate 2 (simp only [go_sem, g1, hge, hgf, hgm, hgn]; rfl)); decide; apply e_call; decide; (iterate 2 (simp only [go_sem, g1, hge, hgf, hgm, hgn]; rfl)); (apply sign3_c; exact ⟨rfl, rfl⟩); apply e_q; decide; (simp only [go_sem, g1, hge, hgf, hgm, hgn]; rfl); apply e_nil; refine t_nil (hK _ _ ?_); clear hK K; apply AWp_ret)
  exact ⟨H, hE, h⟩
theorem cmp_pos {a b : Int} : cmp a b < 0 ↔ a < b := by
  unfold cmp; split
  · simp; assumption
  · split <;> simp <;> omega
theorem cmp_zero {a b : Int} : cmp a b = 0 ↔ a = b := by
  unfold cmp; split
  · simp; omega
  · split <;> simp <;> omega
theorem age_neg {p : Pa} {a b : Nat} : ageI p a b < 0 ↔ (evAt p a).ts < (evAt p b).ts ∨ ((evAt p a).ts = (evAt p b).ts ∧ (nmAt p a < nmAt p b ∨ (nmAt p a = nmAt p b ∧ a < b))) := by
  rw [ageI]
  simp only [firstNZ]
  by_cases h1 : cmp (evAt p a).ts (evAt p b).ts = 0
  · rw [if_pos h1]
    have e1 := cmp_zero.1 h1
    by_cases h2 : cmpS (nmAt p a) (nmAt p b) = 0
    · rw [if_pos h2]
      have e2 := cmpS_zero.1 h2
      have hirr : ¬ nmAt p b < nmAt p b := lt_irr _
      by_cases h3 : cmp (a : Int) b = 0
      · rw [if_pos h3]
        have := cmp_zero.1 h3
        rw [e1, e2]
        simp [hirr]; omega
      · rw [if_neg h3, cmp_pos, e1, e2]
        simp [hirr]
    · rw [if_neg h2, cmpS_lt, e1]
      have hne : nmAt p a ≠ nmAt p b := fun h => h2 (cmpS_zero.2 h)
      simp [hne]
  · rw [if_neg h1, cmp_pos]
    have hne : (evAt p a).ts ≠ (evAt p b).ts := fun h => h1 (cmp_zero.2 h)
    simp [hne]
set_option maxHeartbeats 4000000 in
theorem younger_c (p : Pa) (hr : p.Right) (a b : Nat) (ha : a < p.events.length) (hb : b < p.events.length) (H : AHeap) (K : AV → AHeap → Prop) (h : K (.v (.bool (decide (ageI p b a < 0)))) H) : ACall X 54 [.agg p.cells, .v (.int .i64 a), .v (.int .i64 b)] H K := by
  obtain ⟨e, he⟩ := gete ha
  obtain ⟨f, hf⟩ := gete hb
  have hge := ev_at he
  have hgf := ev_at hf
  obtain ⟨m, hm⟩ := gete (l := p.names) (i := a) (by have := hr.nm; omega)
  obtain ⟨n, hn⟩ := gete (l := p.names) (i := b) (by have := hr.nm; omega)
  have hgm := estr_at hm
  have hgn := estr_at hn
  have e1 : evAt p a = e := by rw [evAt, Int.toNat_natCast]; exact getD_some he
  have e2 : evAt p b = f := by rw [evAt, Int.toNat_natCast]; exact getD_some hf
  have e3 : nmAt p a = m := getD_some hm
  have e4 : nmAt p b = n := getD_some hn
  have hag : (ageI p b a < 0) = (f.ts < e.ts ∨ (f.ts = e.ts ∧ (n < m ∨ (n = m ∧ b < a)))) := by rw [← e1, ← e2, ← e3, ← e4]; exact propext age_neg
  refine ACall.drop ?_
  rw [Pa.cells]
  refine ACall_intro Tryz.func54 rfl (by kernel_rfl) (by rw [Tryz.ntmps54]; simp) ?_; rw [Tryz.ntmps54]; simp only [frame0, Nat.reduceAdd]
  apply sR; intro K hK
  apply s_box; decide; exact (by simp only [go_sem]; try rfl); exact (by simp only [go_sem]; try rfl); intro q hq
  generalize hgenq : AHeap.put q _ H = M; obtain ⟨g1, hextq⟩ := gen_ex hgenq hq; have hE := hextq; clear hextq hgenq
  (refine qr ?_; refine s_nil (hK _ _ ?_); clear hK K; (iterate 2 (apply sK; intro K hK)))
  apply AWp_drawA [0, 1, 2, 3, 4, 5, 6, 7, 8, 9, 10, 11, 12] [] 0 (by exact mixed); kernel_rfl; (iterate 2 (simp only [go_sem]; rfl))
  ((iterate 13 (apply e_q; decide; (simp only [go_sem, g1, hge, hgf]; rfl))); apply e_nil; refine t_nil (hK _ _ ?_); clear hK K)
  refine cs (fun hc => ?_) (fun hc => ?_)
  · have hne : e.ts ≠ f.ts := by simpa using hc
    (apply sK; intro K hK)
    apply AWp_drawA [0, 1, 2, 3, 4, 5, 6, 7, 8, 9, 10, 11, 12] [13] 0 (by exact mixed); kernel_rfl; (iterate 2 (simp only [go_sem]; rfl))
    ((iterate 13 (apply e_q; decide; (simp only [go_sem, g1, hge, hgf]; rfl))); apply e_nil; apply t_q; decide; (simp only [go_sem, g1, hge, hgf]; rfl); (intro _; exact Ext.refl _); refine t_nil (hK _ _ ?_); clear hK K; apply AWp_ret; simp only [AThen, ABlock]; apply end_ret; rfl; simp only [AFr.get, reduceIte, Nat.reduceEqDiff])
    refine ⟨H, hE, finB h ?_⟩
    rw [decide_eq_decide, hag]
    omega
  have heq : e.ts = f.ts := by simpa using hc
  (refine AWp_skip (hK _ _ ?_); clear hK K; (iterate 2 (apply sK; intro K hK)))
  apply AWp_drawA [0, 1, 2, 3, 4, 5, 6, 7, 8, 9, 10] [] 0 (by exact mixed); kernel_rfl; (iterate 2 (simp only [go_sem]; rfl))
  ((iterate 11 (apply e_q; decide; (simp only [go_sem, g1, hgm, hgn]; rfl))); apply e_nil; refine t_nil (hK _ _ ?_); clear hK K)
  refine cs (fun hd => ?_) (fun hd => ?_)
  · have hne : m ≠ n := by simpa using hd
    (apply sK; intro K hK)
    apply AWp_drawA [0, 1, 2, 3, 4, 5, 6, 7, 8, 9, 10] [11] 0 (by exact mixed); kernel_rfl; (iterate 2 (simp only [go_sem]; rfl))
    ((iterate 11 (apply e_q; decide; (simp only [go_sem, g1, hgm, hgn]; rfl))); apply e_nil; apply t_q; decide; (simp only [go_sem, g1, hgm, hgn]; rfl); (intro _; exact Ext.refl _); refine t_nil (hK _ _ ?_); clear hK K; apply AWp_ret; simp only [AThen, ABlock]; apply end_ret; rfl; simp only [AFr.get, reduceIte, Nat.reduceEqDiff])
    refine ⟨H, hE, finB h ?_⟩
    rw [gtr_eq, decide_eq_decide, hag, heq]
    simp [Ne.symm hne]
  have heq2 : m = n := by simpa using hd
  (refine AWp_skip (hK _ _ ?_); clear hK K; apply sR; intro K hK; (iterate 4 (refine qr ?_)); refine s_nil (hK _ _ ?_); clear hK K; apply AWp_ret)
  refine ⟨H, hE, finB h ?_⟩
  rw [decide_eq_decide, hag, heq, heq2]
  have := lt_irr n
  simp [this]
abbrev kmOf (ents : Array MapEntry) (clock : Nat) (es : List (Int × AV)) : AObj := .kmap ents clock (es.map fun p => .v (.int .i64 p.1)) (es.map (·.2))
set_option maxHeartbeats 4000000 in
theorem cmpP_c (p : Pa) (hr : p.Right) (m : Nat) (ents : Array MapEntry) (clock : Nat) (es : List (Int × AV)) (a b : Nat) (ha : a < p.events.length) (hb : b < p.events.length) (x y : Int) (hx : kfind (a : Int) es = some (.v (.int .i64 x))) (hy : kfind (b : Int) es = some (.v (.int .i64 y))) (H : AHeap) (hm : H.get m = some (kmOf ents clock es)) (K : AV → AHeap → Prop) (h : K (.v (.int .i64 (firstNZ [cmp y x, ageI p a b]))) H) :
    ACall X.dr 46 [.v (.int .i64 a), .v (.int .i64 b), .fp [.v (.map (some m))], .fp p.cells] H K := by
  have hA : ∀ K : AV → AHeap → Prop, K (.v (.int .i64 (ageI p a b))) H → ACall X.dr 49 [.agg [.sl false (p.names.map strCells), .sl false (p.events.map Ev.cells), .sl false (p.prev.map rowCells), .sl false (p.auth.map rowCells), .sl false (p.denied.map bolCells)], .v (.int .i64 a), .v (.int .i64 b)] H K := fun K hK => age_c p hr a b ha hb H K hK
  rw [Pa.cells]
  refine ACall_intro Tryz.func46 rfl (by kernel_rfl) (by rw [Tryz.ntmps46]; simp) ?_; rw [Tryz.ntmps46]; simp only [frame0, Nat.reduceAdd]
  (apply sR; intro K hK; refine qr ?_; refine s_nil (hK _ _ ?_); clear hK K; apply sK; intro K hK)
  apply AWp_drawA [0, 1, 2, 3, 4, 5, 6, 7, 8, 9, 10, 11, 12, 13] [] 0 (by exact mixed); kernel_rfl; (iterate 2 (simp only [go_sem]; rfl))
  ((iterate 6 (apply e_q; decide; (simp only [go_sem, hm, hx, hy]; rfl))); apply e_call; decide; (iterate 2 (simp only [go_sem, hm, hx, hy]; rfl)); (apply compare64d_c; exact ⟨rfl, rfl⟩); (iterate 3 (apply e_q; decide; (simp only [go_sem, hm, hx, hy]; rfl))); apply e_call; decide; (iterate 2 (simp only [go_sem, hm, hx, hy]; rfl)); (apply hA; exact ⟨rfl, rfl⟩); apply e_lit; decide; exact el_38; (iterate 2 (simp only [go_sem, hm, hx, hy]; rfl)); decide; apply e_call; decide; (iterate 2 (simp only [go_sem, hm, hx, hy]; rfl)); (apply sign2_c; exact ⟨rfl, rfl⟩); apply e_q; decide; (simp only [go_sem, hm, hx, hy]; rfl); apply e_nil; refine t_nil (hK _ _ ?_); clear hK K; apply AWp_ret)
  exact h

theorem index_c (t : Bool) (l : List Int) (n : Int) (hl : l.length ≤ 4611686018427387904) (H : AHeap) (K : AV → AHeap → Prop) (h : K (.v (.int .i64 (atI n l))) H) : ACall X 58 [.sl t (l.map intCells), .v (.int .i64 n)] H K := by
  refine ACall_intro Tryz.func58 rfl (by kernel_rfl) (by rw [Tryz.ntmps58]; simp) ?_; rw [Tryz.ntmps58]; simp only [frame0, Nat.reduceAdd]
  (apply sR; intro K hK; refine qr ?_; refine s_nil (hK _ _ ?_); clear hK K; apply sK; intro K hK; apply sR; intro K hK; (iterate 3 (refine qr ?_)); refine s_nil (hK _ _ ?_); clear hK K; apply AWp_block)
  refine AWp_loop_s (σ := Nat) [0, 1, 7, 8] (fun i => [.sl t (l.map intCells), .v (.int .i64 n), .v (.int .i64 (l.length : Nat)), .v (.int .i64 i)]) (fun _ => H) (fun i => l.length - i) (fun i => i ≤ l.length ∧ ∀ y ∈ l.take i, y ≠ n) 0 ⟨Nat.zero_le _, by simp⟩ rfl rfl (fun i hi => ?_)
  simp only [List.zip_cons_cons, List.zip_nil_right]
  (apply sR; intro K hK; refine qr ?_; refine s_nil (hK _ _ ?_); clear hK K; apply sK; intro K hK)
  refine cs (fun hd => ?_) (fun hd => ?_)
  · have hlt : i < l.length := by simpa using hd
    obtain ⟨a, ha⟩ := gete hlt
    have hg1 := int_at ha
    (refine AWp_skip (hK _ _ ?_); clear hK K; apply sK; intro K hK; apply AWp_block; apply sR; intro K hK; (iterate 2 (apply s_q; decide; rfl; (simp only [go_sem, hg1]; rfl))); refine s_nil (hK _ _ ?_); clear hK K; apply sR; intro K hK; (iterate 6 (apply s_q; decide; rfl; (simp only [go_sem, hg1]; rfl))); refine s_nil (hK _ _ ?_); clear hK K)
    refine cs (fun he => ?_) (fun he => ?_)
    · have he : n = a := by simpa using he
      (apply sR; intro K hK; (iterate 2 (refine qr ?_)); refine s_nil (hK _ _ ?_); clear hK K; apply AWp_ret; simp only [AThen, ABlock]; apply end_ret; rfl; simp only [AFr.get, reduceIte, Nat.reduceEqDiff])
      exact finI h (atI_take ha hi.2 he.symm).symm
    · have he : ¬ n = a := by simpa using he
      (refine AWp_skip (hK _ _ ?_); clear hK K; apply s_region; (iterate 2 (refine qr ?_)); apply s_nil; simp only [AThen, ABlock])
      refine ⟨i + 1, by omega, ⟨by omega, fun y hy => ?_⟩, ?_, by trivial⟩
      · rcases take_mem_succ ha hy with h1 | rfl
        · exact hi.2 y h1
        · exact Ne.symm he
      · simp only [getAll, List.map, AFr.get, reduceIte, Nat.reduceEqDiff]
        rw [wrapS hlt (by omega)]; try rfl
  · have hge : l.length ≤ i := by simpa using hd
    (apply AWp_exit; simp only [AThen, ABlock, reduceIte, Nat.reduceEqDiff]; clear hK K; refine hK _ _ ?_; clear hK K; apply sR; intro K hK; refine qr ?_; refine s_nil (hK _ _ ?_); clear hK K; apply AWp_ret)
    exact finI h (atI_none (fun y hy => hi.2 y (by rw [List.take_of_length_le hge]; exact hy))).symm
theorem lessi_c (a b : Int) (H : AHeap) (K : AV → AHeap → Prop) (h : K (.v (.bool (decide (a < b)))) H) : ACall X 84 [.v (.int .i64 a), .v (.int .i64 b)] H K := by
  refine ACall_intro Tryz.func84 rfl (by kernel_rfl) (by rw [Tryz.ntmps84]; simp) ?_; rw [Tryz.ntmps84]; simp only [frame0, Nat.reduceAdd]
  (apply sR; intro K hK; refine qr ?_; refine s_nil (hK _ _ ?_); clear hK K; apply sR; intro K hK; refine qr ?_; apply s_call; decide; (iterate 2 (simp only [go_sem]; rfl)); apply isNaN_c; refine qr ?_; refine sp ?_; apply s_gpure; decide; (iterate 3 (simp only [go_sem]; rfl)); trivial; (iterate 2 (simp only [go_sem]; rfl)); (apply isNaN_c; exact ⟨rfl, rfl⟩); refine sp ?_; apply s_pick; decide; (iterate 6 (simp only [go_sem]; rfl)); trivial; trivial; trivial; refine qr ?_; (iterate 3 (refine sp ?_)); apply s_pick; decide; (iterate 6 (simp only [go_sem]; rfl)); trivial; trivial; trivial; refine qr ?_; refine s_nil (hK _ _ ?_); clear hK K; apply AWp_ret)
  exact h
theorem isNaNl_c (n : Int) (H : AHeap) (K : AV → AHeap → Prop) (h : K (.v (.bool false)) H) : ACall X 85 [.v (.int .i64 n)] H K := by
  refine ACall_intro Tryz.func85 rfl (by kernel_rfl) (by rw [Tryz.ntmps85]; simp) ?_; rw [Tryz.ntmps85]; simp only [frame0, Nat.reduceAdd]
  (apply sR; intro K hK; refine qr ?_; refine s_nil (hK _ _ ?_); clear hK K; apply sR; intro K hK; (iterate 4 (refine qr ?_)); refine s_nil (hK _ _ ?_); clear hK K; apply AWp_ret)
  exact finB h (by simp)
set_option maxHeartbeats 2000000 in
theorem bsearch_c (t : Bool) (l : List Int) (k : Int) (m : Nat) (hl : l.length ≤ 1000000) (h1 : ∀ j x, j < m → l[j]? = some x → x < k) (h2 : l[m]? = some k) (h3 : ∀ j x, m ≤ j → l[j]? = some x → k ≤ x) (H : AHeap) (K : AV → AHeap → Prop) (h : ∀ f, K (.tup [.v (.int .i64 m), .v (.bool f)]) H) :
    ACall X 50 [.sl t (l.map intCells), .v (.int .i64 k)] H K := by
  have hml : m < l.length := (List.getElem?_eq_some_iff.1 h2).1
  refine ACall_intro Tryz.func50 rfl (by kernel_rfl) (by rw [Tryz.ntmps50]; simp) ?_; rw [Tryz.ntmps50]; simp only [frame0, Nat.reduceAdd]
  (apply sR; intro K hK; (iterate 2 (refine qr ?_)); refine s_nil (hK _ _ ?_); clear hK K; apply sR; intro K hK; (iterate 3 (refine qr ?_)); refine s_nil (hK _ _ ?_); clear hK K; apply sR; intro K hK; (iterate 3 (refine qr ?_)); refine s_nil (hK _ _ ?_); clear hK K; apply sK; intro K hK; apply AWp_block)
  refine AWp_loop_s (σ := Nat × Nat) [0, 1, 6, 7, 8] (fun s => [.sl t (l.map intCells), .v (.int .i64 k), .v (.int .i64 (l.length : Nat)), .v (.int .i64 s.1), .v (.int .i64 s.2)]) (fun _ => H) (fun s => s.2 - s.1)
    (fun s => s.1 ≤ m ∧ m ≤ s.2 ∧ s.2 ≤ l.length) (0, l.length) ⟨Nat.zero_le _, Nat.le_of_lt hml, Nat.le_refl _⟩ rfl rfl (fun s hs => ?_)
  obtain ⟨i, j⟩ := s
  obtain ⟨hi, hj, hjl⟩ := hs
  simp only [List.zip_cons_cons, List.zip_nil_right] at hi hj hjl ⊢
  (apply sK; intro K hK; apply sR; intro K hK; (iterate 3 (refine qr ?_)); refine s_nil (hK _ _ ?_); clear hK K)
  refine cs (fun hd => ?_) (fun hd => ?_)
  · have hij : i < j := by simpa using hd
    obtain ⟨x, hx⟩ := gete (l := l) (i := (i + j) / 2) (by omega)
    have hgx := int_at hx
    have e1 : IntKind.i64.wrap ((i : Int) + (j : Int)) = ((i + j : Nat) : Int) := by rw [wrap64 (by omega)]; omega
    have e2 : IntKind.u64.wrap ((i + j : Nat) : Int) = ((i + j : Nat) : Int) := by simp [IntKind.wrap, IntKind.signed, IntKind.bits]; omega
    have e3 : Int.fdiv ((i + j : Nat) : Int) (2 ^ min 1 64) = (((i + j) / 2 : Nat) : Int) := by
      rw [show (2 : Int) ^ min 1 64 = ((2 : Nat) : Int) from rfl, ← Int.ofNat_fdiv]
    have e4 : IntKind.i64.wrap (((i + j) / 2 : Nat) : Int) = (((i + j) / 2 : Nat) : Int) := wrap64 (by omega)
    (refine AWp_skip (hK _ _ ?_); clear hK K; apply AWp_block; apply sR; intro K hK; (iterate 7 (apply s_q; decide; rfl; (simp only [go_sem, e1, e2, e3, e4, hgx]; rfl))); refine s_nil (hK _ _ ?_); clear hK K; apply sR; intro K hK; (iterate 5 (apply s_q; decide; rfl; (simp only [go_sem, e1, e2, e3, e4, hgx]; rfl))); apply s_call; decide; (iterate 2 (simp only [go_sem, e1, e2, e3, e4, hgx]; rfl)); apply lessi_c; refine s_nil (hK _ _ ?_); clear hK K)
    refine cs (fun he => ?_) (fun he => ?_)
    · have he : x < k := by simpa using he
      have hlt : (i + j) / 2 < m := by
        rcases Nat.lt_or_ge ((i + j) / 2) m with h4 | h4
        · exact h4
        · have := h3 _ _ h4 hx; omega
      have e5 : IntKind.i64.wrap ((((i + j) / 2 : Nat) : Int) + 1) = (((i + j) / 2 + 1 : Nat) : Int) := by rw [wrap64 (by omega)]; omega
      (apply s_region; (iterate 3 (refine qr ?_)); apply s_nil; simp only [AThen, ABlock])
      refine ⟨((i + j) / 2 + 1, j), by simp only; omega, ⟨by simp only; omega, hj, hjl⟩, ?_, by trivial⟩
      simp only [getAll, List.map, AFr.get, reduceIte, Nat.reduceEqDiff]
      rw [e5]
    · have he : ¬ x < k := by simpa using he
      have hge : m ≤ (i + j) / 2 := by
        rcases Nat.lt_or_ge ((i + j) / 2) m with h4 | h4
        · exact absurd (h1 _ _ h4 hx) he
        · exact h4
      (apply s_region; (iterate 2 (refine qr ?_)); apply s_nil; simp only [AThen, ABlock])
      refine ⟨(i, (i + j) / 2), by simp only; omega, ⟨hi, hge, by simp only; omega⟩, ?_, by trivial⟩
      simp only [getAll, List.map, AFr.get, reduceIte, Nat.reduceEqDiff]
  · have hge : ¬ i < j := by simpa using hd
    have him : i = m := by omega
    subst him
    have hgx := int_at h2
    (apply AWp_exit; simp only [AThen, ABlock, reduceIte, Nat.reduceEqDiff]; clear hK K; refine hK _ _ ?_; clear hK K; apply sR; intro K hK; (iterate 5 (apply s_q; decide; rfl; (simp only [go_sem, hgx]; rfl))); (iterate 2 (apply s_spec; decide; rfl; rfl; (iterate 4 (simp only [go_sem, hgx]; rfl)); trivial)); apply s_when; decide; (iterate 3 (simp only [go_sem, hgx]; rfl)); simp [condsOk]; (intro hg; (focus (simp only [go_sem, hgx]; (try rfl); done))); apply s_spec; decide; rfl; rfl; (iterate 4 (simp only [go_sem, hgx]; rfl)); simp [condsOk]; apply s_spec; decide; rfl; rfl; (iterate 4 (simp only [go_sem, hgx]; rfl)); trivial; (iterate 2 (apply s_spec; decide; rfl; rfl; (iterate 4 (simp only [go_sem, hgx]; rfl)); simp [condsOk])); (iterate 2 (apply s_spec; decide; rfl; rfl; (iterate 4 (simp only [go_sem, hgx]; rfl)); trivial)); apply s_when; decide; (iterate 3 (simp only [go_sem, hgx]; rfl)); simp [condsOk]; (intro hg; (focus (simp only [go_sem, hgx]; (try rfl); done))); apply s_spec; decide; rfl; rfl; (iterate 4 (simp only [go_sem, hgx]; rfl)); simp [condsOk]; apply s_gpure; decide; (iterate 3 (simp only [go_sem, hgx]; rfl)); simp [condsOk]; (iterate 2 (simp only [go_sem, hgx]; rfl)); (apply isNaNl_c; exact ⟨rfl, rfl⟩); apply s_spec; decide; rfl; rfl; (iterate 4 (simp only [go_sem, hgx]; rfl)); simp [condsOk]; apply s_spec; decide; rfl; rfl; (iterate 4 (simp only [go_sem, hgx]; rfl)); trivial; apply s_gpure; decide; (iterate 3 (simp only [go_sem, hgx]; rfl)); trivial; (iterate 2 (simp only [go_sem, hgx]; rfl)); (apply isNaNl_c; exact ⟨rfl, rfl⟩); apply s_pickg; decide; (iterate 8 (simp only [go_sem, hgx]; rfl)); simp [condsOk]; simp [condsOk]; trivial; apply s_pickg; decide; (iterate 8 (simp only [go_sem, hgx]; rfl)); simp [condsOk]; trivial; simp [condsOk]; apply s_pick; decide; (iterate 6 (simp only [go_sem, hgx]; rfl)); trivial; simp [condsOk]; trivial; (iterate 2 (apply s_q; decide; rfl; (simp only [go_sem, hgx]; rfl))); refine s_nil (hK _ _ ?_); clear hK K; apply AWp_ret)
    exact h _
def setL (n : Nat) (l : List Int) : List Int := ofN ((List.range n).filter fun i => decide ((i : Int) ∈ l))
theorem setL_len (n : Nat) (l : List Int) : (setL n l).length ≤ n := by
  rw [setL, ofN, List.length_map]
  exact Nat.le_trans (List.length_filter_le _ _) (by rw [List.length_range]; omega)
theorem setL_mem {n : Nat} {l : List Int} {k : Int} : k ∈ setL n l ↔ k ∈ l ∧ 0 ≤ k ∧ k < n := by
  rw [setL, ofN, List.mem_map]
  constructor
  · rintro ⟨i, hi, rfl⟩
    rw [List.mem_filter, List.mem_range, decide_eq_true_iff] at hi
    exact ⟨hi.2, by show 0 ≤ ((i : Nat) : Int); omega, by show ((i : Nat) : Int) < n; omega⟩
  · rintro ⟨h1, h2, h3⟩
    refine ⟨k.toNat, ?_, by show ((k.toNat : Nat) : Int) = k; omega⟩
    rw [List.mem_filter, List.mem_range, decide_eq_true_iff, show ((k.toNat : Nat) : Int) = k by omega]
    exact ⟨by omega, h1⟩
theorem setL_lt (n : Nat) (l : List Int) : (setL n l).Pairwise (· < ·) := by
  rw [setL, ofN, List.pairwise_map]
  exact (List.pairwise_lt_range.filter _).imp fun h => by show ((_ : Nat) : Int) < ((_ : Nat) : Int); omega
theorem filt_succ (i : Nat) (l : List Int) : ofN ((List.range (i + 1)).filter fun k => decide ((k : Int) ∈ l)) = ofN ((List.range i).filter fun k => decide ((k : Int) ∈ l)) ++ (if (i : Int) ∈ l then [(i : Int)] else []) := by
  rw [List.range_succ, List.filter_append, ofN, ofN, List.map_append]
  by_cases e : (i : Int) ∈ l <;> simp [e]
set_option maxHeartbeats 2000000 in
theorem set_c (p : Pa) (hw : p.Wide) (hn : p.events.length ≤ 1000) (t : Bool) (l : List Int) (hl : l.length ≤ 1000) (H : AHeap) (Kc : AV → AHeap → Prop) (h : Kc (.sl false ((setL p.events.length l).map intCells)) H) : ACall X 53 [.agg p.cells, .sl t (l.map intCells)] H Kc := by
  refine ACall.gr (e := 3) (sz := 1) h ?_
  clear h
  rw [Pa.cells]
  refine ACall_intro Tryz.func53 rfl (by kernel_rfl) (by rw [Tryz.ntmps53]; simp) ?_; rw [Tryz.ntmps53]; simp only [frame0, Nat.reduceAdd]
  apply sR; intro K hK
  apply s_box; decide; exact (by simp only [go_sem]; try rfl); exact (by simp only [go_sem]; try rfl); intro q hq
  generalize hgenq : AHeap.put q _ H = M; obtain ⟨g1, hextq⟩ := gen_ex hgenq hq; have hE := hextq; clear hextq hgenq
  (refine qr ?_; refine s_nil (hK _ _ ?_); clear hK K; apply sR; intro K hK; refine qr ?_; refine s_nil (hK _ _ ?_); clear hK K; apply sK; intro K hK; apply sR; intro K hK; refine qr ?_; refine s_nil (hK _ _ ?_); clear hK K; apply AWp_block)
  refine AWp_loop_s (σ := Nat × AV × AHeap) [1, 2, 5, 6] (fun s => [.sl t (l.map intCells), ptrTo q, s.2.1, .v (.int .i64 (s.1 : Int))]) (fun s => s.2.2) (fun s => p.events.length - s.1)
    (fun s => s.1 ≤ p.events.length ∧ s.2.2.get q = some (.box 35 [.sl false (p.names.map strCells), .sl false (p.events.map Ev.cells), .sl false (p.prev.map rowCells), .sl false (p.auth.map rowCells), .sl false (p.denied.map bolCells)]) ∧ Ext H s.2.2 ∧ RowAt 3 1 H s.2.2 ((setL s.1 l).map intCells) s.2.1)
    (0, .sl true [], M) ⟨Nat.zero_le _, g1, hE, RowAt.nil _ _ _ _⟩ rfl rfl (fun s hs => ?_)
  obtain ⟨i, o, L2⟩ := s
  obtain ⟨hi, g2, hE2, hR⟩ := hs
  simp only [List.zip_cons_cons, List.zip_nil_right] at hi g2 hE2 hR ⊢
  clear g1 hE
  (apply sK; intro K hK; apply sR; intro K hK; (iterate 5 (apply s_q; decide; rfl; (simp only [go_sem, g2]; rfl))); refine s_nil (hK _ _ ?_); clear hK K)
  refine cs (fun he => ?_) (fun he => ?_)
  · have hid : i < p.events.length := by simpa using he
    have hlen := setL_len i l
    have hsuc : setL (i + 1) l = setL i l ++ (if (i : Int) ∈ l then [(i : Int)] else []) := filt_succ i l
    (refine AWp_skip (hK _ _ ?_); clear hK K; apply sK; intro K hK; apply AWp_block; apply sR; intro K hK; (iterate 2 (refine qr ?_)); apply s_call; decide; (iterate 2 (simp only [go_sem]; rfl)); apply in_c _ t l (by omega); refine s_nil (hK _ _ ?_); clear hK K)
    refine cs (fun hz => ?_) (fun hz => ?_)
    · have hz : (i : Int) ∈ l := by simpa using hz
      rw [if_pos hz] at hsuc
      (apply s_region; (iterate 2 (refine qr ?_)); apply s_lit; decide; exact el_38; (iterate 2 (simp only [go_sem]; rfl)); decide; apply s_append; decide; (iterate 2 (simp only [go_sem]; rfl)); apply AApp_at el_38 hE2 hR (l := setL i l) (m := [(i : Int)]) (g := intCells) rfl rfl tk_38 int_one (by simp; omega) (by simp; omega); intro o2 L4 b1 b2 b3; refine qr ?_; refine s_nil (hK _ _ ?_); clear hK K; apply s_region; (iterate 3 (refine qr ?_)); apply s_nil; simp only [AThen, ABlock])
      refine ⟨(i + 1, o2, L4), by simp only; omega, ⟨by simp only; omega, b3 _ _ g2 (fun _ _ _ h => by cases h), b2, by simp only; rw [hsuc]; exact b1⟩, ?_, by trivial⟩
      simp only [getAll, List.map, AFr.get, reduceIte, Nat.reduceEqDiff]
      rw [wrapS hid (by omega)]; try rfl
    · have hz : ¬ (i : Int) ∈ l := by simpa using hz
      rw [if_neg hz, List.append_nil] at hsuc
      (refine AWp_skip (hK _ _ ?_); clear hK K; apply s_region; (iterate 3 (refine qr ?_)); apply s_nil; simp only [AThen, ABlock])
      refine ⟨(i + 1, o, L2), by simp only; omega, ⟨by simp only; omega, g2, hE2, by simp only; rw [hsuc]; exact hR⟩, ?_, by trivial⟩
      simp only [getAll, List.map, AFr.get, reduceIte, Nat.reduceEqDiff]
      rw [wrapS hid (by omega)]; try rfl
  · have hge : p.events.length = i := by simp at he; omega
    subst hge
    (apply AWp_exit; simp only [AThen, ABlock, reduceIte, Nat.reduceEqDiff]; clear hK K; refine hK _ _ ?_; clear hK K; apply sR; intro K hK; (iterate 2 (refine qr ?_)); refine s_nil (hK _ _ ?_); clear hK K; apply AWp_ret)
    obtain ⟨L0, h1, h2⟩ := hR.toGr hE2
    exact ⟨L0, h1, h2⟩
theorem there_d (p : Pa) (hw : p.Wide) (i : Int) (H : AHeap) (K : AV → AHeap → Prop) (h : K (.v (.bool (inR p.events.length i))) H) : ACall X.dr 37 [.agg p.cells, .v (.int .i64 i)] H K := by
  have w2 := hw.ev
  refine ACall.drop ?_
  rw [Pa.cells]
  refine ACall_intro Tryz.func37 rfl (by kernel_rfl) (by rw [Tryz.ntmps37]; simp) ?_; rw [Tryz.ntmps37]; simp only [frame0, Nat.reduceAdd]
  apply sR; intro K hK
  apply s_box; decide; exact (by simp only [go_sem]; try rfl); exact (by simp only [go_sem]; try rfl); intro q hq
  generalize hgenq : AHeap.put q _ H = M; obtain ⟨g1, hextq⟩ := gen_ex hgenq hq; have hE := hextq; clear hextq hgenq
  (apply s_q; decide; rfl; (simp only [go_sem, g1]; rfl); refine s_nil (hK _ _ ?_); clear hK K; apply sR; intro K hK; (iterate 3 (apply s_q; decide; rfl; (simp only [go_sem, g1]; rfl))); (iterate 2 (apply s_spec; decide; rfl; rfl; (iterate 4 (simp only [go_sem, g1]; rfl)); trivial)); (iterate 3 (apply s_spec; decide; rfl; rfl; (iterate 4 (simp only [go_sem, g1]; rfl)); simp [condsOk])); apply s_pick; decide; (iterate 6 (simp only [go_sem, g1]; rfl)); trivial; simp [condsOk]; trivial; apply s_q; decide; rfl; (simp only [go_sem, g1]; rfl); refine s_nil (hK _ _ ?_); clear hK K; apply AWp_ret)
  refine ⟨H, hE, finB h ?_⟩
  rw [inR]
  by_cases e : 0 ≤ i <;> simp [e]
theorem those1_d (p : Pa) (hw : p.Wide) (i : Int) (q : Nat) (H : AHeap) (hq : H.get q = some (paBox p)) (K : AV → AHeap → Prop) (h : K (.v (.bool (!inR p.events.length i))) H) : ACall X.dr 77 [.v (.int .i64 i), ptrTo q] H K := by
  have hT : ∀ K : AV → AHeap → Prop, K (.v (.bool (inR p.events.length i))) H → ACall X.dr 37 [.agg [.sl false (p.names.map strCells), .sl false (p.events.map Ev.cells), .sl false (p.prev.map rowCells), .sl false (p.auth.map rowCells), .sl false (p.denied.map bolCells)], .v (.int .i64 i)] H K := fun K hK => there_d p hw i H K hK
  have hq : H.get q = some (.box 35 [.sl false (p.names.map strCells), .sl false (p.events.map Ev.cells), .sl false (p.prev.map rowCells), .sl false (p.auth.map rowCells), .sl false (p.denied.map bolCells)]) := hq
  refine ACall_intro Tryz.func77 rfl (by kernel_rfl) (by rw [Tryz.ntmps77]; simp) ?_; rw [Tryz.ntmps77]; simp only [frame0, Nat.reduceAdd]
  (apply sR; intro K hK; apply s_q; decide; rfl; (simp only [go_sem, hq]; rfl); refine s_nil (hK _ _ ?_); clear hK K; apply sR; intro K hK; (iterate 2 (apply s_q; decide; rfl; (simp only [go_sem, hq]; rfl))); apply s_call; decide; (iterate 2 (simp only [go_sem, hq]; rfl)); apply hT; (iterate 2 (apply s_q; decide; rfl; (simp only [go_sem, hq]; rfl))); refine s_nil (hK _ _ ?_); clear hK K; apply AWp_ret)
  exact h
structure Cut (pr : Int → Bool) (l R : List Int) (i j : Nat) : Prop where
  len : R.length = l.length
  le : i ≤ j
  kept : R.take i = (l.take j).filter fun x => !pr x
  rest : ∀ k, j ≤ k → R[k]? = l[k]?
theorem Cut.step_keep {pr : Int → Bool} {l R : List Int} {i j : Nat} {x : Int} (h : Cut pr l R i j) (hx : l[j]? = some x) (hp : pr x = false) : Cut pr l (R.set i x) (i + 1) (j + 1) where
  len := by rw [List.length_set]; exact h.len
  le := by have := h.le; omega
  kept := by
    have hj := (List.getElem?_eq_some_iff.1 hx).1
    have hi : i < R.length := by have := h.len; have := h.le; omega
    rw [take_succ hx, List.filter_append, ← h.kept]
    have e : (R.set i x)[i]? = some x := by rw [List.getElem?_set_self hi]
    rw [take_succ e, List.take_set_of_le (Nat.le_refl _)]
    simp [hp]
  rest := fun k hk => by
    rw [List.getElem?_set_ne (by have := h.le; omega)]
    exact h.rest k (by omega)
theorem Cut.step_drop {pr : Int → Bool} {l R : List Int} {i j : Nat} {x : Int} (h : Cut pr l R i j) (hx : l[j]? = some x) (hp : pr x = true) : Cut pr l R i (j + 1) where
  len := h.len
  le := by have := h.le; omega
  kept := by rw [take_succ hx, List.filter_append, ← h.kept]; simp [hp]
  rest := fun k hk => h.rest k (by omega)
theorem idx_split (pr : Int → Bool) (l : List Int) : (idxI pr l = -1 ∧ l.filter (fun x => !pr x) = l) ∨ ∃ (i : Nat) (x : Int), idxI pr l = i ∧ l[i]? = some x ∧ pr x = true ∧ (l.take i).filter (fun x => !pr x) = l.take i := by
  cases h : l.findIdx? pr with
  | none =>
    left
    rw [List.findIdx?_eq_none_iff] at h
    exact ⟨idx_none h, List.filter_eq_self.2 (fun x hx => by rw [h x hx]; rfl)⟩
  | some i =>
    right
    rw [List.findIdx?_eq_some_iff_getElem] at h
    obtain ⟨hi, h1, h2⟩ := h
    have hno : ∀ y ∈ l.take i, pr y = false := fun y hy => by
      obtain ⟨j, hj, rfl⟩ := List.mem_take_iff_getElem.1 hy
      simpa using h2 j (by omega)
    exact ⟨i, l[i], idx_take (List.getElem?_eq_getElem hi) hno h1, List.getElem?_eq_getElem hi, h1, List.filter_eq_self.2 (fun x hx => by rw [hno x hx]; rfl)⟩
set_option maxHeartbeats 4000000 in
theorem deleteFunc_c (g : FuncId) (q : Nat) (o : AObj) (ho : ∀ sz sn es, o ≠ .row 3 sz sn es) (pr : Int → Bool) (l : List Int) (hl : l.length ≤ 1000000) (H0 L : AHeap) (hE : Ext H0 L) (a : AV) (hR : RowAt 3 1 H0 L (l.map intCells) a) (hq : L.get q = some o)
    (hg : ∀ (x : Int) (L' : AHeap), L'.get q = some o → ∀ K : AV → AHeap → Prop, K (.v (.bool (pr x))) L' → ACall X.dr g ([.v (.int .i64 x)] ++ [ptrTo q]) L' K) (Kc : AV → AHeap → Prop)
    (h : ∀ a' L', RowAt 3 1 H0 L' ((l.filter fun x => !pr x).map intCells) a' → Ext H0 L' → Keeps 3 L L' → Kc a' L') : ACall X 75 [a, .fn (.func g) [] [ptrTo q]] L Kc := by
  have hArr : Arr L l a := by
    rcases hR with ⟨rfl, h0⟩ | ⟨b, _, rfl, h3⟩
    · have : l = [] := by simpa using h0
      subst this; exact .inl ⟨true, rfl⟩
    · exact .inr (.inl ⟨b, false, by simp, h3⟩)
  have hI : ∀ K : AV → AHeap → Prop, K (.v (.int .i64 (idxI pr l))) L → ACall X 80 [a, .fn (.func g) [] [ptrTo q]] L K := fun K hK =>
    ACall.undr (indexFuncI_c g [ptrTo q] pr a l hl L hArr (fun x _ K hK => hg x L hq K hK) K hK)
  refine ACall_intro Tryz.func75 rfl (by kernel_rfl) (by rw [Tryz.ntmps75]; simp) ?_; rw [Tryz.ntmps75]; simp only [frame0, Nat.reduceAdd]
  (apply sR; intro K hK; refine qr ?_; refine s_nil (hK _ _ ?_); clear hK K; apply sR; intro K hK; (iterate 2 (refine qr ?_)); apply s_call; decide; (iterate 2 (simp only [go_sem]; rfl)); apply hI; refine qr ?_; refine s_nil (hK _ _ ?_); clear hK K; apply sK; intro K hK; apply sR; intro K hK; (iterate 2 (refine qr ?_)); refine s_nil (hK _ _ ?_); clear hK K)
  rcases idx_split pr l with ⟨h1, h2⟩ | ⟨i, x, h1, hix, hpx, hkeep⟩
  · rw [h1]
    skip
    refine cs (fun hz => ?_) (fun hz => ?_)
    rotate_left
    · simp at hz
    (apply sR; intro K hK; (iterate 2 (refine qr ?_)); refine s_nil (hK _ _ ?_); clear hK K; apply AWp_ret; simp only [AThen, ABlock]; apply end_ret; rfl; simp only [AFr.get, reduceIte, Nat.reduceEqDiff])
    rw [h2] at h
    exact h _ _ hR hE (Keeps.refl _ _)
  have hil := (List.getElem?_eq_some_iff.1 hix).1
  obtain ⟨b, hHb, rfl, gb⟩ := hR.row (by intro e; rw [List.map_eq_nil_iff] at e; subst e; simp at hil)
  rw [h1, List.length_map]
  skip
  refine cs (fun hz => ?_) (fun hz => ?_)
  · simp at hz <;> omega
  have hw1 : IntKind.i64.wrap ((i : Int) + 1) = ((i + 1 : Nat) : Int) := wrapS hil (by omega)
  (refine AWp_skip (hK _ _ ?_); clear hK K; apply sK; intro K hK; apply sR; intro K hK; (iterate 3 (apply s_q; decide; rfl; (simp only [go_sem, hw1]; rfl))); refine s_nil (hK _ _ ?_); clear hK K; apply AWp_block)
  have hC0 : Cut pr l l i (i + 1) := ⟨rfl, by omega, by rw [take_succ hix, List.filter_append, hkeep]; simp [hpx], fun _ _ => rfl⟩
  have hqb : q ≠ b := by rintro rfl; rw [gb] at hq; cases hq; exact ho _ _ _ rfl
  refine AWp_loop_s (σ := Nat × Nat × List Int) [0, 1, 5, 6] (fun s => [.row b 1 l.length, .fn (.func g) [] [ptrTo q], .v (.int .i64 (s.1 : Int)), .v (.int .i64 (s.2.1 : Int))]) (fun s => L.put b (.row 3 1 false (s.2.2.map intCells))) (fun s => l.length - s.2.1)
    (fun s => s.2.1 ≤ l.length ∧ Cut pr l s.2.2 s.1 s.2.1) (i, i + 1, l) ⟨hil, hC0⟩ rfl (by rw [put_same gb]) (fun s hs => ?_)
  obtain ⟨i2, j, R⟩ := s
  obtain ⟨hj, hC⟩ := hs
  simp only [List.zip_cons_cons, List.zip_nil_right] at hj hC ⊢
  have hgb := AHeap.get_put_same b (.row 3 1 false (R.map intCells)) L
  have hgq := get_other (x := .row 3 1 false (R.map intCells)) hq hqb
  have hRl := hC.len
  (apply sK; intro K hK; apply sR; intro K hK; (iterate 4 (refine qr ?_)); refine s_nil (hK _ _ ?_); clear hK K)
  refine cs (fun hd => ?_) (fun hd => ?_)
  · have hjl : j < l.length := by simpa using hd
    obtain ⟨y, hy⟩ := gete hjl
    have hRy := (hC.rest j (Nat.le_refl _)).trans hy
    have hgy := int_at hRy
    have hltj : ((j : Int) < (l.length : Int)) = True := by simp; omega
    have hlti : ((i2 : Int) < (l.length : Int)) = True := by have := hC.le; simp; omega
    have hgy2 := fun (K : AV → AHeap → Prop) hK => ACall.undr (hg y _ hgq K hK)
    (refine AWp_skip (hK _ _ ?_); clear hK K; apply sK; intro K hK; apply AWp_block; apply sR; intro K hK; (iterate 5 (apply s_q; decide; rfl; (simp only [go_sem, hgb, hgy, hltj]; rfl))); refine s_nil (hK _ _ ?_); clear hK K; apply sR; intro K hK; (iterate 2 (apply s_q; decide; rfl; (simp only [go_sem, hgb, hgy, hltj]; rfl))); apply s_call; decide; (iterate 2 (simp only [go_sem, hgb, hgy, hltj]; rfl)); apply hgy2; apply s_q; decide; rfl; (simp only [go_sem, hgb, hgy, hltj]; rfl); refine s_nil (hK _ _ ?_); clear hK K)
    refine cs (fun he => ?_) (fun he => ?_)
    · have hpy : pr y = false := by simpa using he
      have hgi : (R.map intCells)[i2]? = some [.v (.int .i64 (R.getD i2 0))] := by
        obtain ⟨z, hz⟩ := gete (l := R) (i := i2) (by have := hC.le; omega)
        rw [int_at hz, getD_some hz]
      have hw2 : IntKind.i64.wrap ((i2 : Int) + 1) = ((i2 + 1 : Nat) : Int) := wrapS (n := l.length) (by have := hC.le; omega) (by omega)
      (apply sR; intro K hK; (iterate 4 (apply s_q; decide; rfl; (simp only [go_sem, hgb, hgi, hlti, hw2]; rfl))); apply s_store; (iterate 3 (simp only [go_sem, hgb, hgi, hlti, hw2]; rfl)); refine s_nil (hK _ _ ?_); clear hK K; apply s_region; (iterate 3 (apply s_q; decide; rfl; (simp only [go_sem, hgb, hgi, hlti, hw2]; rfl))); refine s_nil (hK _ _ ?_); clear hK K; apply s_region; (iterate 3 (apply s_q; decide; rfl; (simp only [go_sem, hgb, hgi, hlti, hw2]; rfl))); apply s_nil; simp only [AThen, ABlock])
      refine ⟨(i2 + 1, j + 1, R.set i2 y), by simp only; omega, ⟨by simp only; omega, hC.step_keep hy hpy⟩, ?_, ?_⟩
      · simp only [getAll, List.map, AFr.get, reduceIte, Nat.reduceEqDiff]
        rw [wrapS hjl (by omega)]; try rfl
      · simp only [List.map_set]; rfl
    · have hpy : pr y = true := by simpa using he
      (refine AWp_skip (hK _ _ ?_); clear hK K; apply s_region; (iterate 3 (refine qr ?_)); apply s_nil; simp only [AThen, ABlock])
      refine ⟨(i2, j + 1, R), by simp only; omega, ⟨by simp only; omega, hC.step_drop hy hpy⟩, ?_, by trivial⟩
      simp only [getAll, List.map, AFr.get, reduceIte, Nat.reduceEqDiff]
      rw [wrapS hjl (by omega)]; try rfl
  · have hge : j = l.length := by simp at hd; omega
    subst hge
    have hle := hC.le
    have hk := hC.kept
    rw [List.take_length] at hk
    have hlen2 : (l.filter fun x => !pr x).length = i2 := by rw [← hk, List.length_take]; omega
    have c1 : (0 ≤ (i2 : Int) ∧ (i2 : Int) ≤ (l.length : Int)) = True := by simp; omega
    have hvw : sliceK (.sl 3 (some 1)) (.row b 1 l.length) (some (.v (.int .i64 (i2 : Int)))) none none = some (.vw b 1 i2 (l.length - i2)) := by
      simp [sliceK, boundV]; omega
    have hrw : sliceK (.sl 3 (some 1)) (.row b 1 l.length) none (some (.v (.int .i64 (i2 : Int)))) none = some (.row b 1 i2) := by
      simp [sliceK]; omega
    (apply AWp_exit; simp only [AThen, ABlock, reduceIte, Nat.reduceEqDiff]; clear hK K; refine hK _ _ ?_; clear hK K; apply sR; intro K hK; (iterate 2 (refine qr ?_)))
    apply s_q; decide; rfl; (simp only [pvK, AFr.ev, AFr.get, reduceIte, Nat.reduceEqDiff, tk_38, Option.map_some, Option.map_none, AV.ofC]; exact hvw)
    apply s_clearV (by simp only [go_sem]; rfl) hgb (by rw [List.length_map]; omega) Tryz.underlying38 Tryz.zeroValue3
    rw [AHeap.put_put, ← List.map_take, hk]
    (refine s_nil (hK _ _ ?_); clear hK K; apply sR; intro K hK; (iterate 2 (refine qr ?_)); (apply s_q; decide; rfl; (simp only [pvK, AFr.ev, AFr.get, reduceIte, Nat.reduceEqDiff, tk_38, Option.map_some, Option.map_none, AV.ofC]; exact hrw)); refine qr ?_; refine s_nil (hK _ _ ?_); clear hK K; apply AWp_ret)
    refine h _ _ (.inr ⟨b, hHb, by rw [List.length_map, hlen2]; rfl, AHeap.get_put_same _ _ _⟩) (hE.over hHb) (fun c o' hc hne => ?_)
    rw [AHeap.get_put, if_neg]
    · exact hc
    · rintro rfl; rw [gb] at hc; cases hc; exact hne _ _ _ rfl

theorem values_c (t : Bool) (l : List Int) (H : AHeap) (K : AV → AHeap → Prop) (h : ∀ c, H.get c = none → K (.fn (.func 79) [] [ptrTo c]) (H.put c (.box 38 [.sl t (l.map intCells)]))) : ACall X 45 [.sl t (l.map intCells)] H K := by
  refine ACall_intro Tryz.func45 rfl (by kernel_rfl) (by rw [Tryz.ntmps45]; simp) ?_; rw [Tryz.ntmps45]; simp only [frame0, Nat.reduceAdd]
  (apply sR; intro K hK; apply s_box; decide; (iterate 2 (simp only [go_sem]; rfl)); intro b hb; refine qr ?_; refine s_nil (hK _ _ ?_); clear hK K; apply sR; intro K hK; (iterate 2 (refine qr ?_)); refine s_nil (hK _ _ ?_); clear hK K; apply AWp_ret)
  exact h _ (by assumption)
theorem iterV_c (y c : Nat) (t : Bool) (l : List Int) (hl : l.length ≤ 1000000) (I : Nat → AHeap → Prop) (Kc : AV → AHeap → Prop)
    (hI : ∀ n H, I n H → H.get c = some (.box 38 [.sl t (l.map intCells)]))
    (hy : ∀ (n : Nat) (x : Int) (H : AHeap), l[n]? = some x → I n H → AYield X y [.v (.int .i64 x)] H (fun a H' => (a = .v (.bool true) ∧ I (n + 1) H') ∨ (a = .v (.bool false) ∧ Kc (.tup []) H')))
    (h0 : ∀ H, I l.length H → Kc (.tup []) H) (H : AHeap) (hH : I 0 H) : ACall X 79 [.fn (.yield y) [] [], ptrTo c] H Kc := by
  have hg0 := hI _ _ hH
  refine ACall_intro Tryz.func79 rfl (by kernel_rfl) (by rw [Tryz.ntmps79]; simp) ?_; rw [Tryz.ntmps79]; simp only [frame0, Nat.reduceAdd]
  (apply sR; intro K hK; (iterate 3 (apply s_q; decide; rfl; (simp only [go_sem, hg0]; rfl))); refine s_nil (hK _ _ ?_); clear hK K; apply AWp_block)
  refine AWp_loop_s (σ := Nat × AHeap) [0, 1, 5, 6, 7] (fun s => [.fn (.yield y) [] [], ptrTo c, .sl t (l.map intCells), .v (.int .i64 (l.length : Nat)), .v (.int .i64 s.1)]) (fun s => s.2) (fun s => l.length - s.1) (fun s => s.1 ≤ l.length ∧ I s.1 s.2) (0, H) ⟨Nat.zero_le _, hH⟩ rfl rfl (fun s hs => ?_)
  obtain ⟨n, L⟩ := s
  obtain ⟨hn, hIL⟩ := hs
  simp only [List.zip_cons_cons, List.zip_nil_right] at hn hIL ⊢
  (apply sR; intro K hK; refine qr ?_; refine s_nil (hK _ _ ?_); clear hK K; apply sK; intro K hK)
  refine cs (fun hd => ?_) (fun hd => ?_)
  · have hlt : n < l.length := by simpa using hd
    obtain ⟨x, hx⟩ := gete hlt
    have hgx := int_at hx
    (refine AWp_skip (hK _ _ ?_); clear hK K; apply sK; intro K hK; apply AWp_block; apply sR; intro K hK; (iterate 3 (apply s_q; decide; rfl; (simp only [go_sem, hgx]; rfl))); refine s_nil (hK _ _ ?_); clear hK K; apply sR; intro K hK; (iterate 2 (apply s_q; decide; rfl; (simp only [go_sem, hgx]; rfl))))
    apply s_yield; decide; exact (by simp only [go_sem]; try rfl); exact (by simp only [go_sem]; try rfl)
    refine AYield.mono (hy n x _ hx hIL) ?_
    rintro a L' (⟨rfl, hI'⟩ | ⟨rfl, hK'⟩)
    · (refine qr ?_; refine s_nil (hK _ _ ?_); clear hK K)
      refine cs (fun hz => ?_) (fun hz => ?_)
      · cases hz
      (refine AWp_skip (hK _ _ ?_); clear hK K; apply s_region; (iterate 2 (refine qr ?_)); apply s_nil; simp only [AThen, ABlock])
      refine ⟨(n + 1, L'), by simp only; omega, ⟨by simp only; omega, hI'⟩, ?_, by trivial⟩
      simp only [getAll, List.map, AFr.get, reduceIte, Nat.reduceEqDiff]
      rw [wrapS hlt (by omega)]; try rfl
    · (refine qr ?_; refine s_nil (hK _ _ ?_); clear hK K)
      refine cs (fun hz => ?_) (fun hz => ?_)
      rotate_left
      · cases hz
      (apply AWp_ret; simp only [AThen, ABlock]; apply end_ret; rfl)
      exact hK'
  · have hge : n = l.length := by simp at hd; omega
    subst hge
    (apply AWp_exit; simp only [AThen, ABlock, reduceIte, Nat.reduceEqDiff])
    apply end_normal; rfl
    exact h0 _ hIL

theorem appendSeq_c (cb : Nat) (t : Bool) (l : List Int) (hl : l.length ≤ 1000000) (H : AHeap) (hcb : H.get cb = some (.box 38 [.sl t (l.map intCells)])) (Kc : AV → AHeap → Prop)
    (h : ∀ s L, Ext H L → RowAt 3 1 H L (l.map intCells) s → Kc s L) : ACall X 92 [.sl true [], .fn (.func 79) [] [ptrTo cb]] H Kc := by
  refine ACall_intro Tryz.func92 rfl (by kernel_rfl) (by rw [Tryz.ntmps92]; simp) ?_; rw [Tryz.ntmps92]; simp only [frame0, Nat.reduceAdd]
  apply sR; intro K hK
  apply s_box; decide; exact (by simp only [go_sem]; try rfl); exact (by simp only [go_sem]; try rfl); intro B hB
  have e1 := AHeap.get_put_same B (.box 38 [.sl true []]) H
  have e2 := get_fresh hcb hB (x := .box 38 [.sl true []])
  have e3 := Ext.fresh hB (o := .box 38 [.sl true []])
  generalize AHeap.put B (.box 38 [.sl true []]) H = M at e1 e2 e3 ⊢
  (refine qr ?_; refine s_nil (hK _ _ ?_); clear hK K; apply sK; intro K hK; apply sR; intro K hK; refine qr ?_; refine s_nil (hK _ _ ?_); clear hK K; apply AWp_block)
  refine AWp_cut [2, 6] (vs := [ptrTo B, .fn (.func 79) [] [ptrTo cb]]) rfl ?_
  simp only [List.zip_cons_cons, List.zip_nil_right]
  apply AWp_rangeFunc; exact (by simp only [go_sem]; try rfl); intro y hy
  generalize hlo : AObj.loop 13 _ _ _ _ LoopState.ready none = lo
  have y1 := get_ne_fresh e1 hy
  have y2 := get_ne_fresh e2 hy
  have hHy : H.get y = none := none_of_ext e3 hy
  have hHB : H.get B = none := hB
  refine iterV_c y cb t l hl (fun n L => L.get y = some lo ∧ L.get cb = some (.box 38 [.sl t (l.map intCells)]) ∧ Ext H L ∧ ∃ sv, L.get B = some (.box 38 [sv]) ∧ RowAt 3 1 H L ((l.take n).map intCells) sv) _ (fun n L h => h.2.1) ?_ ?_ _ ?_
  · rintro n x L hx ⟨g1, g2, g3, sv, g4, gR⟩
    obtain ⟨g5, g6⟩ : HeldAt 3 1 L ((l.take n).map intCells) sv ∧ (∀ b n, sv = .row b 1 n → H.get b = none) := by
      rcases gR with ⟨rfl, h0⟩ | ⟨b, h1, rfl, h3⟩
      · exact ⟨.inl (by rw [h0]), by intro b n h; cases h⟩
      · exact ⟨.inr ⟨b, rfl, h3⟩, by intro b' n h; cases h; exact h1⟩
    rw [← hlo] at g1
    apply AYield_intro g1 rfl; decide
    simp only [putAll, List.toList_toArray]
    (apply s_region; apply s_q; (dsimp only; decide); rfl; (simp only [go_sem]; rfl); apply s_nil; simp only [AThen, ABlock])
    refine ⟨g1, ?_⟩
    generalize hlb : AObj.loop 13 _ _ _ _ LoopState.busy none = lb
    have c2 : (L.put y lb).get cb = some (.box 38 [.sl t (l.map intCells)]) := by rw [AHeap.get_put, if_neg y2]; exact g2
    have c3 := g3.over (o := lb) hHy
    have c4 : (L.put y lb).get B = some (.box 38 [sv]) := by rw [AHeap.get_put, if_neg y1]; exact g4
    have c5 := g5.put g1 (fun _ _ _ h => by cases h) (o' := lb)
    have d1 := AHeap.get_put_same y lb L
    have hnl : n < l.length := (List.getElem?_eq_some_iff.1 hx).1
    generalize L.put y lb = N at c2 c3 c4 c5 d1 ⊢
    have hlen1 : ∀ e ∈ ((l.take n).map intCells), e.length = 1 := fun e he => by
      obtain ⟨d, _, rfl⟩ := List.mem_map.1 he; rfl
    have hne : ∀ q o', N.get q = some o' → (∀ sz sn es, o' ≠ .row 3 sz sn es) → ∀ b, sv = .row b 1 ((l.take n).map intCells).length → q ≠ b := by
      rintro q o' hq' ho' b hb rfl
      rcases c5 with h1 | ⟨b2, h1, h2⟩
      · rw [h1] at hb; cases hb
      · rw [h1] at hb; cases hb
        rw [h2] at hq'; cases hq'
        exact ho' _ _ _ rfl
    (apply AWp_block; apply s_region; (iterate 2 (apply s_q; (dsimp only; decide); rfl; (simp only [go_sem, c4]; rfl))); apply s_lit; (dsimp only; decide); exact el_38; (iterate 2 (simp only [go_sem, c4]; rfl)); decide; apply s_append; (dsimp only; decide); (iterate 2 (simp only [go_sem, c4]; rfl)); apply AApp_push el_38 c5 hlen1 (nes := [[.v (.int .i64 x)]]) (fun M => src_sl tk_38 (fun e he => by simp at he; subst he; exact ⟨rfl, rfl⟩)) (by simp) (by simp; omega) (by simp; omega); intro nb L2 k1 k2)
    have f1 := (k2 y _ d1 (hne y _ d1 (by rw [← hlb]; intro _ _ _ h; cases h))).1
    have f2 := (k2 cb _ c2 (hne cb _ c2 (by intro _ _ _ h; cases h))).1
    have f6 : Ext H L2 := fun q o' hq' => (k2 q o' (c3 q o' hq') (by rintro b hb rfl; rw [g6 _ _ hb] at hq'; cases hq')).1
    have f8 := (k2 B _ c4 (hne B _ c4 (by intro _ _ _ h; cases h))).1
    have f10 : H.get nb = none := by
      cases hx2 : H.get nb with
      | none => rfl
      | some o' => exact absurd rfl (k2 nb o' (c3 nb o' hx2) (by rintro b hb rfl; rw [g6 _ _ hb] at hx2; cases hx2)).2
    have hcbB : cb ≠ B := by rintro rfl; rw [hcb] at hHB; cases hHB
    have hnbB : nb ≠ B := by rintro rfl; rw [f8] at k1; cases k1
    have hnby : nb ≠ y := by rintro rfl; rw [f1] at k1; rw [← hlb] at k1; cases k1
    have hpp : ((l.take n).map intCells ++ [[.v (.int .i64 x)]]) = (l.take (n + 1)).map intCells := by rw [take_succ hx]; simp [intCells]
    have f12 : (L2.put B (.box 38 [.row nb 1 ((l.take n).map intCells ++ [[AV.v (.int .i64 x)]]).length])).get y = some lb := by rw [AHeap.get_put, if_neg (Ne.symm y1)]; exact f1
    (apply s_store; (iterate 3 (simp only [go_sem, f8]; rfl)); apply s_nil; simp only [AThen, ABlock])
    simp only [ABlock, ARound]
    refine ⟨by rw [hlb]; exact f12, .inl ⟨by trivial, ?_, ?_, ?_, .row nb 1 ((l.take n).map intCells ++ [[AV.v (.int .i64 x)]]).length, ?_, ?_⟩⟩
    · rw [AHeap.get_put_same, hlo]
    · rw [AHeap.get_put, if_neg y2, AHeap.get_put, if_neg hcbB]; exact f2
    · exact (f6.over hHB).over hHy
    · rw [AHeap.get_put, if_neg y1, AHeap.get_put_same]
    · rw [hpp] at k1 ⊢
      exact .inr ⟨nb, f10, rfl, by rw [AHeap.get_put, if_neg hnby, AHeap.get_put, if_neg hnbB]; exact k1⟩
  · rintro L ⟨g1, g2, g3, sv, g4, g5⟩
    refine ⟨_, .ready, none, by rw [g1, ← hlo], by simp, ?_⟩
    simp only [ABlock, AThen]
    have hlor : ∀ sz sn es, lo ≠ .row 3 sz sn es := by rw [← hlo]; intro _ _ _ h; cases h
    have q1 : (AHeap.del y L).get B = some (.box 38 [sv]) := by rw [AHeap.get_del, if_neg y1]; exact g4
    have q2 := g3.del hHy
    have q3 := g5.del g1 hlor
    rw [List.take_length] at q3
    refine hK _ _ ?_
    (apply sR; intro K hK; (iterate 2 (apply s_q; decide; rfl; (simp only [go_sem, q1]; rfl))); refine s_nil (hK _ _ ?_); clear hK K; apply AWp_ret)
    exact h sv _ q2 q3
  · refine ⟨AHeap.get_put_same _ _ _, get_fresh e2 hy, e3.put hy, .sl true [], get_fresh e1 hy, .inl ⟨rfl, rfl⟩⟩
theorem collect_c (cb : Nat) (t : Bool) (l : List Int) (hl : l.length ≤ 1000000) (H : AHeap) (hcb : H.get cb = some (.box 38 [.sl t (l.map intCells)])) (Kc : AV → AHeap → Prop)
    (h : ∀ s L, Ext H L → RowAt 3 1 H L (l.map intCells) s → Kc s L) : ACall X 56 [.fn (.func 79) [] [ptrTo cb]] H Kc := by
  refine ACall_intro Tryz.func56 rfl (by kernel_rfl) (by rw [Tryz.ntmps56]; simp) ?_; rw [Tryz.ntmps56]; simp only [frame0, Nat.reduceAdd]
  (apply sR; intro K hK; refine qr ?_; refine s_nil (hK _ _ ?_); clear hK K; apply sR; intro K hK; refine qr ?_; apply s_call; decide; (iterate 2 (simp only [go_sem]; rfl)); apply appendSeq_c cb t l hl H hcb; intro s L h1 h2; refine qr ?_; refine s_nil (hK _ _ ?_); clear hK K; apply AWp_ret)
  exact h s L h1 h2
end Go.Proofs.YtcpfgjfiacfmoaaGreatDoor
