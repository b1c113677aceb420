/-
  The document's insert: a text into rising ones. Contract.
-/
import Derived.Test.YtmloandpjbimkaaW25G
set_option linter.unusedSimpArgs false
set_option linter.unusedVariables false
set_option maxRecDepth 100000
namespace Go.Proofs.Ytmloandpjbimkaa
open Go Go.AL
attribute [local irreducible] AOps AWp SOps AE AT ACall AApp

def insL : List (List UInt8) → List UInt8 → List (List UInt8)
  | [], s => [s]
  | a :: l, s => if a = s then a :: l else if s < a then s :: a :: l else a :: insL l s
theorem insL_skip {l : List (List UInt8)} {i : Nat} {s : List UInt8} (h : ∀ x ∈ l.take i, x ≠ s ∧ ¬ s < x) : insL l s = l.take i ++ insL (l.drop i) s := by
  induction l generalizing i with
  | nil => simp
  | cons a l ih =>
    cases i with
    | zero => simp
    | succ i =>
      have h0 := h a (by simp)
      rw [insL, if_neg h0.1, if_neg h0.2, ih (i := i) (fun x hx => h x (by simp [hx]))]
      simp
theorem insL_mem {s x : List UInt8} : ∀ {l : List (List UInt8)}, x ∈ insL l s ↔ x = s ∨ x ∈ l
  | [] => by simp [insL]
  | a :: l => by
    rw [insL]
    split
    · rename_i h; subst h; simp
    · split
      · simp
      · rw [List.mem_cons, insL_mem (l := l), List.mem_cons]
        constructor
        · rintro (h | h | h)
          · exact .inr (.inl h)
          · exact .inl h
          · exact .inr (.inr h)
        · rintro (h | h | h)
          · exact .inr (.inl h)
          · exact .inl h
          · exact .inr (.inr h)
abbrev Rising (l : List (List UInt8)) : Prop := l.Pairwise (· < ·)
theorem insL_rising {s : List UInt8} : ∀ {l : List (List UInt8)}, Rising l → Rising (insL l s)
  | [], _ => by simp [insL, Rising]
  | a :: l, h => by
    have h1 := List.pairwise_cons.1 h
    rw [insL]
    split
    · exact h
    · rename_i hne
      split
      · rename_i hlt
        refine List.pairwise_cons.2 ⟨fun x hx => ?_, h⟩
        rcases List.mem_cons.1 hx with rfl | hx
        · exact hlt
        · exact lt_tr hlt (h1.1 x hx)
      · rename_i hnl
        refine List.pairwise_cons.2 ⟨fun x hx => ?_, insL_rising h1.2⟩
        rcases insL_mem.1 hx with rfl | hx
        · rcases lt_tri a x with h2 | h2 | h2
          · exact h2
          · exact absurd h2 hne
          · exact absurd h2 hnl
        · exact h1.1 x hx
theorem rising_nodup {l : List (List UInt8)} (h : Rising l) : l.Nodup := h.imp fun h e => by subst e; exact lt_irr _ h
theorem rising_eq {l m : List (List UInt8)} (hl : Rising l) (hm : Rising m) (h : ∀ x, x ∈ l ↔ x ∈ m) : l = m :=
  List.Perm.eq_of_pairwise (le := (· < ·)) (fun a b _ _ h1 h2 => absurd (lt_tr h1 h2) (lt_irr _)) hl hm (nodup_perm (rising_nodup hl) (rising_nodup hm) h)
theorem sortL_rising {l : List (List UInt8)} (h : l.Nodup) : Rising (sortL l) := by
  have tr : ∀ a b c : List UInt8, decide (a ≤ b) = true → decide (b ≤ c) = true → decide (a ≤ c) = true := fun a b c h k => by
    simp only [decide_eq_true_eq] at *; exact List.le_trans h k
  have tt : ∀ a b : List UInt8, (decide (a ≤ b) || decide (b ≤ a)) = true := fun a b => by
    simp only [Bool.or_eq_true, decide_eq_true_eq]; exact List.le_total _ _
  have h1 : (sortL l).Pairwise fun a b => decide (a ≤ b) = true := List.pairwise_mergeSort tr tt l
  have h2 : (sortL l).Nodup := (sortL_perm l).nodup_iff.2 h
  exact h1.imp₂ (fun a b h3 h4 => by
    simp only [decide_eq_true_eq] at h3
    rcases lt_tri a b with h5 | h5 | h5
    · exact h5
    · exact absurd h5 h4
    · exact absurd h5 (List.not_lt.2 h3)) h2
theorem senders_step (V : List Kn) (k : Kn) : sendersOf (V ++ [k]) (rkey k) = insL (sendersOf V (rkey k)) k.ev.sender := by
  refine rising_eq (sortL_rising (dedup_ok _).1) (insL_rising (sortL_rising (dedup_ok _).1)) fun x => ?_
  rw [insL_mem, sendersOf, sendersOf, (sortL_perm _).mem_iff, (sortL_perm _).mem_iff, mem_users, mem_users]
  constructor
  · rintro ⟨y, hy, h1, h2⟩
    rcases List.mem_append.1 hy with hy | hy
    · exact .inr ⟨y, hy, h1, h2⟩
    · simp at hy; subst hy; exact .inl h2.symm
  · rintro (rfl | ⟨y, hy, h1, h2⟩)
    · exact ⟨k, by simp, rfl, rfl⟩
    · exact ⟨y, by simp [hy], h1, h2⟩
theorem senders_other (V : List Kn) (k : Kn) {q : List UInt8} (h : rkey k ≠ q) : sendersOf (V ++ [k]) q = sendersOf V q := by
  rw [sendersOf, users_snoc, if_neg h]; rfl
set_option maxHeartbeats 4000000 in
theorem insert_c (es : List (List UInt8)) (s : List UInt8) (hl : es.length ≤ 1000000) (a : AV) (L : AHeap) (ha : (a = .sl true [] ∧ es = []) ∨ ∃ b, a = .row b 1 es.length ∧ L.get b = some (.row 9 1 false (es.map strCells))) (K : AV → AHeap → Prop)
    (h : ∀ b' L', L'.get b' = some (.row 9 1 false ((insL es s).map strCells)) → (∀ c o, L.get c = some o → (∀ b, a = .row b 1 es.length → c ≠ b) → L'.get c = some o ∧ c ≠ b') → K (.row b' 1 (insL es s).length) L') :
    ACall X 45 [a, .s s] L K := by
  rcases ha with ⟨rfl, rfl⟩ | ⟨b0, rfl, hb0⟩
  · refine ACall_intro Try.func45 rfl (by kernel_rfl) (by rw [Try.ntmps45]; simp) ?_; rw [Try.ntmps45]; simp only [frame0, Nat.reduceAdd]
    (refine AWp_seq_k (fun K hK => ?_); apply s_region; apply s_q; decide; rfl; (simp only [go_sem]; rfl); apply s_nil; simp only [AThen, ABlock]; refine hK _ _ ?_; clear hK K; (iterate 2 (refine AWp_seq_k (fun K hK => ?_))); apply s_region; apply s_q; decide; rfl; (simp only [go_sem]; rfl); apply s_nil; simp only [AThen, ABlock]; refine hK _ _ ?_; clear hK K; apply AWp_block)
    refine AWp_loop_s (σ := Unit) [0, 1, 5] (fun _ => [.sl true [], .s s, .v (.int .i64 0)]) (fun _ => L) (fun _ => 0) (fun _ => True) () trivial rfl rfl (fun _ _ => ?_)
    simp only [List.zip_cons_cons, List.zip_nil_right]
    ((iterate 2 (refine AWp_seq_k (fun K hK => ?_))); apply s_region; (iterate 4 (apply s_q; decide; rfl; (simp only [go_sem]; rfl))); apply s_nil; simp only [AThen, ABlock]; refine hK _ _ ?_; clear hK K)
    refine cond_split (by simp only [go_sem]; try rfl) (fun hc => ?_) (fun hc => ?_)
    · simp at hc
    have hsr : ∀ M : AHeap, srcV X.P M 1 22 (.sl true [[AV.s s]]) = some [[AV.s s]] := fun M => src_sl tk_22 (by simp [AV.one])
    (apply AWp_exit; simp only [AThen, ABlock, reduceIte, Nat.reduceEqDiff]; clear hK K; refine hK _ _ ?_; clear hK K; refine AWp_seq_k (fun K hK => ?_); apply s_region; (iterate 2 (apply s_q; decide; rfl; (simp only [go_sem]; rfl))); apply s_lit; decide; exact el_22; (simp only [go_sem]; rfl); (simp only [go_sem]; rfl); decide; apply s_append; decide; (simp only [go_sem]; rfl); (simp only [go_sem]; rfl); apply AApp_push (es := []) (nes := [[AV.s s]]) el_22 (.inl rfl) (by simp) hsr (by simp) (by simp) (by simp); intro b' L' hb' hK'; apply s_q; decide; rfl; (simp only [go_sem]; rfl); apply s_nil; simp only [AThen, ABlock]; refine hK _ _ ?_; clear hK K; apply AWp_ret)
    exact h b' L' hb' hK'
  · refine ACall_intro Try.func45 rfl (by kernel_rfl) (by rw [Try.ntmps45]; simp) ?_; rw [Try.ntmps45]; simp only [frame0, Nat.reduceAdd]
    (refine AWp_seq_k (fun K hK => ?_); apply s_region; apply s_q; decide; rfl; (simp only [go_sem]; rfl); apply s_nil; simp only [AThen, ABlock]; refine hK _ _ ?_; clear hK K; (iterate 2 (refine AWp_seq_k (fun K hK => ?_))); apply s_region; apply s_q; decide; rfl; (simp only [go_sem]; rfl); apply s_nil; simp only [AThen, ABlock]; refine hK _ _ ?_; clear hK K; apply AWp_block)
    refine AWp_loop_s (σ := Nat) [0, 1, 5] (fun i => [.row b0 1 es.length, .s s, .v (.int .i64 i)]) (fun _ => L) (fun i => es.length - i) (fun i => i ≤ es.length ∧ ∀ x ∈ es.take i, x ≠ s ∧ ¬ s < x) 0 ⟨Nat.zero_le _, by simp⟩ rfl rfl (fun i hi => ?_)
    simp only [List.zip_cons_cons, List.zip_nil_right]
    ((iterate 2 (refine AWp_seq_k (fun K hK => ?_))); apply s_region; (iterate 4 (apply s_q; decide; rfl; (simp only [go_sem]; rfl))); apply s_nil; simp only [AThen, ABlock]; refine hK _ _ ?_; clear hK K)
    refine cond_split (by simp only [go_sem]; try rfl) (fun hc => ?_) (fun hc => ?_)
    · have hlt : i < es.length := by simpa using hc
      have hkI : (i : Int) < (es.length : Int) := by omega
      obtain ⟨x, hx⟩ := gete hlt
      have hgx := jstr_at hx
      (apply AWp_skip; simp only [AThen, ABlock]; refine hK _ _ ?_; clear hK K; refine AWp_seq_k (fun K hK => ?_); apply AWp_block; (iterate 2 (refine AWp_seq_k (fun K hK => ?_))); apply s_region; (iterate 6 (apply s_q; decide; rfl; (simp only [go_sem, hkI, hb0, hgx]; rfl))); apply s_nil; simp only [AThen, ABlock]; refine hK _ _ ?_; clear hK K)
      refine cond_split (by simp only [go_sem]; try rfl) (fun hd => ?_) (fun hd => ?_)
      · have hxs : x = s := by simpa using hd
        have hin : insL es s = es := by
          rw [insL_skip hi.2, List.drop_eq_getElem_cons hlt, (List.getElem?_eq_some_iff.1 hx).2, insL, if_pos hxs]
          rw [← (List.getElem?_eq_some_iff.1 hx).2, ← List.drop_eq_getElem_cons hlt, List.take_append_drop]
        (refine AWp_seq_k (fun K hK => ?_); apply s_region; (iterate 2 (apply s_q; decide; rfl; (simp only [go_sem]; rfl))); apply s_nil; simp only [AThen, ABlock]; refine hK _ _ ?_; clear hK K; apply AWp_ret; simp only [AThen, ABlock]; apply end_ret; rfl; simp only [AFr.get, reduceIte, Nat.reduceEqDiff])
        have := h b0 L (by rw [hin]; exact hb0) (fun c o hc hb => ⟨hc, hb b0 rfl⟩)
        rw [hin] at this
        exact this
      have hxs : ¬ x = s := by simpa using hd
      (apply AWp_skip; simp only [AThen, ABlock]; refine hK _ _ ?_; clear hK K; refine AWp_seq_k (fun K hK => ?_); apply s_region; (iterate 6 (apply s_q; decide; rfl; (simp only [go_sem, hkI, hb0, hgx]; rfl))); apply s_nil; simp only [AThen, ABlock]; refine hK _ _ ?_; clear hK K)
      refine cond_split (by simp only [go_sem]; try rfl) (fun he => ?_) (fun he => ?_)
      · rw [gtr_eq] at he
        have hsx : s < x := by simpa using he
        have hin : insL es s = es.take i ++ [s] ++ es.drop i := by
          rw [insL_skip hi.2, List.drop_eq_getElem_cons hlt, (List.getElem?_eq_some_iff.1 hx).2, insL, if_neg hxs, if_pos hsx]; simp
        refine AWp_cut [0, 1, 5] (vs := [.row b0 1 es.length, .s s, .v (.int .i64 i)]) rfl ?_
        simp only [List.zip_cons_cons, List.zip_nil_right]
        refine AWp.snap hb0 ?_
        have hln : (es.map strCells).length = es.length := List.length_map _
        simp only [AFr.snap, AV.snap, if_true, hln, Nat.le_refl, and_self]
        rw [List.take_of_length_le (by rw [hln]; exact Nat.le_refl _)]
        have hH1 : ∀ c o, L.get c = some o → (∀ b, AV.row b0 1 es.length = .row b 1 es.length → c ≠ b) → (L.put b0 (.row 9 1 true (es.map strCells))).get c = some o := fun c o hc hb => by
          rw [AHeap.get_put_ne _ _ (hb b0 rfl)]; exact hc
        generalize L.put b0 (.row 9 1 true (es.map strCells)) = L1 at hH1 ⊢
        have hall : ((es.map strCells).all fun c => c.length == 1) = true := by
          rw [List.all_eq_true]; intro c hcl
          obtain ⟨d, _, rfl⟩ := List.mem_map.1 hcl; rfl
        have hE0 := Ext.refl L1
        have e1 : List.drop 0 (List.take i (es.map strCells)) = (es.take i).map strCells := by rw [List.drop_zero, List.map_take]
        have e2 : List.drop i (List.take (es.map strCells).length (es.map strCells)) = (es.drop i).map strCells := by rw [List.take_length, List.map_drop]
        have hile : i ≤ es.length := hi.1
        refine AWp_seq_k (fun K hK => ?_)
        apply AWp_drawA [0, 1, 2, 3, 5, 6, 8, 9, 10] [4, 7, 11, 12] 2 (by exact mixed); kernel_rfl; (simp only [go_sem]; rfl); (simp only [go_sem]; rfl)
        have f1 : (i ≤ es.length) = True := by simp; omega
        (apply e_lit; decide; exact el_22; (simp only [go_sem, f1, hall, hln, Nat.le_refl]; rfl); (simp only [go_sem, f1, hall, hln, Nat.le_refl]; rfl); decide; (iterate 4 (apply e_q; decide; (simp only [go_sem, f1, hall, hln, Nat.le_refl]; rfl))); apply e_lit; decide; exact el_22; (simp only [go_sem, f1, hall, hln, Nat.le_refl]; rfl); (simp only [go_sem, f1, hall, hln, Nat.le_refl]; rfl); decide; (iterate 3 (apply e_q; decide; (simp only [go_sem, f1, hall, hln, Nat.le_refl]; rfl))); apply e_nil; apply t_append; decide; (simp only [go_sem, f1, hall, hln, Nat.le_refl]; rfl); (simp only [go_sem, f1, hall, hln, Nat.le_refl]; rfl); apply AApp_at el_22 hE0 (RowAt.nil 9 1 L1 L1) (l := []) (m := es.take i) (g := strCells) rfl (by simp) tk_22 str_one (by simp; omega) (by simp; omega); intro s1 M1 r1 x1 k1; refine ⟨by (intro _; assumption), ?_⟩)
        (apply t_append; decide; (simp only [go_sem, f1]; rfl); (simp only [go_sem, f1]; rfl); apply AApp_at el_22 x1 r1 (l := [] ++ es.take i) (m := [s]) (g := strCells) rfl rfl tk_22 str_one (by simp; omega) (by simp; omega); intro s2 M2 r2 x2 k2; refine ⟨by (intro _; assumption), ?_⟩)
        (apply t_append; decide; (simp only [go_sem, f1]; rfl); (simp only [go_sem, f1]; rfl); apply AApp_at el_22 x2 r2 (l := [] ++ es.take i ++ [s]) (m := es.drop i) (g := strCells) rfl (by rw [List.take_of_length_le (by simp), List.map_drop]) tk_22 str_one (by simp; omega) (by simp; omega); intro s3 M3 r3 x3 k3; refine ⟨by (intro _; assumption), ?_⟩; apply t_q; decide; (simp only [go_sem, f1]; rfl); (intro _; assumption); apply t_nil; simp only [AThen, ABlock]; refine hK _ _ ?_; clear hK K; apply AWp_ret; simp only [AThen, ABlock]; apply end_ret; rfl; simp only [AFr.get, reduceIte, Nat.reduceEqDiff])
        rw [List.nil_append, ← hin] at r3
        obtain ⟨b', hb1, rfl, hb2⟩ := r3.row (by rw [hin]; simp)
        rw [List.length_map]
        refine h b' M3 hb2 (fun c o hc hb => ?_)
        have h1 := hH1 c o hc hb
        refine ⟨x3 c o h1, ?_⟩
        rintro rfl
        rw [hb1] at h1; cases h1
      · rw [gtr_eq] at he
        have hnl : ¬ s < x := by simpa using he
        (apply AWp_skip; simp only [AThen, ABlock]; refine hK _ _ ?_; clear hK K; apply s_region; (iterate 3 (apply s_q; decide; rfl; (simp only [go_sem]; rfl))); apply s_nil; simp only [AThen, ABlock])
        refine ⟨i + 1, by omega, ⟨by omega, ?_⟩, ?_, by trivial⟩
        · intro y hy
          rcases take_mem_succ hx hy with hy | hy
          · exact hi.2 y hy
          · subst hy; exact ⟨hxs, hnl⟩
        · simp only [getAll, List.map_cons, List.map_nil, AFr.get]
          rw [wrapS hlt (by omega)]; rfl
    · have hge : es.length ≤ i := by simpa using hc
      have hin : insL es s = es ++ [s] := by
        rw [insL_skip hi.2, List.take_of_length_le hge, List.drop_of_length_le hge]; rfl
      have hsr : ∀ M : AHeap, srcV X.P M 1 22 (.sl true [[AV.s s]]) = some [[AV.s s]] := fun M => src_sl tk_22 (by simp [AV.one])
      have hln : (es.map strCells).length = es.length := List.length_map _
      (apply AWp_exit; simp only [AThen, ABlock, reduceIte, Nat.reduceEqDiff]; clear hK K; refine hK _ _ ?_; clear hK K; refine AWp_seq_k (fun K hK => ?_); apply s_region; (iterate 2 (apply s_q; decide; rfl; (simp only [go_sem]; rfl))); apply s_lit; decide; exact el_22; (simp only [go_sem]; rfl); (simp only [go_sem]; rfl); decide; apply s_append; decide; (simp only [go_sem]; rfl); (simp only [go_sem]; rfl); apply AApp_push (es := es.map strCells) (nes := [[AV.s s]]) el_22 (.inr ⟨b0, by rw [hln], hb0⟩) (by simp [strCells]) hsr (by simp) (by simp; omega) (by simp; omega); intro b' L' hb' hK'; apply s_q; decide; rfl; (simp only [go_sem]; rfl); apply s_nil; simp only [AThen, ABlock]; refine hK _ _ ?_; clear hK K; apply AWp_ret)
      rw [hln] at hK'
      have := h b' L' (by rw [hin, List.map_append]; exact hb') hK'
      rw [hin] at this
      have e : (es.map strCells ++ [[AV.s s]]).length = (es ++ [s]).length := by simp
      rw [e]; exact this
end Go.Proofs.Ytmloandpjbimkaa
