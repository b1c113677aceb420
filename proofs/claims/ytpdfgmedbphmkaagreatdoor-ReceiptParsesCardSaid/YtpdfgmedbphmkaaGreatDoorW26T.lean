/-
  The document's Put: contract.
-/
import Derived.Test.YtpdfgmedbphmkaaGreatDoorW26S
set_option linter.unusedSimpArgs false
set_option linter.unusedVariables false
set_option maxRecDepth 100000
namespace Go.Proofs.YtpdfgmedbphmkaaGreatDoor
open Go Go.AL
attribute [local irreducible] AOps AWp SOps AE AT ACall AApp

def ins (m : Mark) : List Mark → List Mark
  | [] => [m]
  | x :: L => if m.user < x.user then m :: x :: L else x :: ins m L
theorem ins_end {m : Mark} : ∀ {A : List Mark}, (∀ x ∈ A, ¬ m.user < x.user) → ins m A = A ++ [m]
  | [], _ => rfl
  | x :: A, h => by simp only [ins, if_neg (h x (by simp)), List.cons_append, ins_end (A := A) fun y hy => h y (by simp [hy])]
theorem ins_here {m x : Mark} : ∀ {A : List Mark}, (∀ x ∈ A, ¬ m.user < x.user) → m.user < x.user → ins m (A ++ [x]) = A ++ [m] ++ [x]
  | [], _, h => by simp [ins, h]
  | y :: A, h, hx => by simp only [ins, List.cons_append, if_neg (h y (by simp)), ins_here (A := A) (fun z hz => h z (by simp [hz])) hx]
theorem ins_past {m x : Mark} : ∀ {A : List Mark}, (∃ y ∈ A, m.user < y.user) → ins m (A ++ [x]) = ins m A ++ [x]
  | [], h => by obtain ⟨y, hy, _⟩ := h; cases hy
  | y :: A, h => by
    by_cases e : m.user < y.user
    · simp only [ins, List.cons_append, if_pos e]
    · have : ∃ y ∈ A, m.user < y.user := by
        obtain ⟨z, hz, h2⟩ := h
        rcases List.mem_cons.1 hz with rfl | hz
        · exact absurd h2 e
        · exact ⟨z, hz, h2⟩
      simp only [ins, List.cons_append, if_neg e, ins_past this]
theorem ins_len (m : Mark) : ∀ A : List Mark, (ins m A).length = A.length + 1
  | [] => rfl
  | x :: A => by
    simp only [ins]
    split
    · rfl
    · simp [ins_len m A]
instance (a b : Mark) : Decidable (Le a b) := inferInstanceAs (Decidable (_ ∨ _))
def rput (m : Mark) (L : List Mark) : Bool × Int × List Mark :=
  if okMark m then match place m.user L with
    | some i => match L[i]? with
      | some o => if Le m o then (false, 0, L) else (true, 0, ins m (L.take i ++ L.drop (i + 1)))
      | none => (true, 0, ins m L)
    | none => (true, 0, ins m L)
  else (false, 1, L)

set_option maxHeartbeats 4000000 in
theorem rput_c (p : Nat) (t : Bool) (m : Mark) (L : List Mark) (hl : L.length ≤ 100000) (hu : m.user.length < 4294967281) (H : AHeap) (hB : RB H p t L) (Kc : AV → AHeap → Prop)
    (h : ∀ t', Kc (.tup [.v (.bool (rput m L).1), .v (.int .i64 (rput m L).2.1)]) (H.put p (.box 38 [.sl t' ((rput m L).2.2.map Mark.cells)]))) : ACall X 20 [.v (.pointer (some ⟨p, 0, none⟩)), .agg m.cells] H Kc := by
  refine ACall.drop ?_
  have hpf := place_find (u := m.user) (L := L)
  have hsame : Kc (.tup [.v (.bool (rput m L).1), .v (.int .i64 (rput m L).2.1)]) (H.put p (.box 38 [.sl t ((rput m L).2.2.map Mark.cells)])) := h t
  refine ACall_intro Tryz.func20 rfl (by kernel_rfl) (by rw [Tryz.ntmps20]; simp) ?_; rw [Tryz.ntmps20]; simp only [frame0, Nat.reduceAdd]
  (refine AWp_seq_k (fun K hK => ?_); apply s_region; apply s_box; decide; (simp only [go_sem, Mark.cells]; rfl); (simp only [go_sem, Mark.cells]; rfl); intro b hb; (iterate 2 (apply s_q; decide; rfl; (simp only [go_sem, Mark.cells]; rfl))); apply s_nil; simp only [AThen, ABlock]; refine hK _ _ ?_; clear hK K; (iterate 2 (refine AWp_seq_k (fun K hK => ?_))); apply s_region; apply s_q; decide; rfl; (simp only [go_sem, Mark.cells]; rfl))
  revert hb; revert b; intro b3 hb3
  have hB1 : RB (H.put b3 (.box 49 [.s m.user, .v (.int .i64 m.at_), .v (.int .i64 m.ts)])) p t L := get_fresh hB hb3
  have hm3 := AHeap.get_put_same b3 (.box 49 [.s m.user, .v (.int .i64 m.at_), .v (.int .i64 m.ts)]) H
  (apply s_call; decide; (simp only [go_sem, hm3]; rfl); (simp only [go_sem, hm3]; rfl); apply right_c m hu; apply s_q; decide; rfl; (simp only [go_sem, hm3]; rfl); apply s_nil; simp only [AThen, ABlock]; refine hK _ _ ?_; clear hK K)
  refine cond_split (by simp only [go_sem]; try rfl) (fun hc => ?_) (fun hc => ?_)
  · (refine AWp_seq_k (fun K hK => ?_); apply s_region; (iterate 2 (apply s_q; decide; rfl; (simp only [go_sem]; rfl))); apply s_nil; simp only [AThen, ABlock]; refine hK _ _ ?_; clear hK K; apply AWp_ret; simp only [AThen, ABlock]; apply end_ret; rfl; simp only [AFr.get, reduceIte, Nat.reduceEqDiff])
    have ho : okMark m = false := by simpa using hc
    have e : rput m L = (false, 1, L) := by simp [rput, ho]
    rw [e] at hsame
    simp only at hsame
    rw [put_same hB] at hsame
    exact ⟨H, Ext.fresh hb3, hsame⟩
  have ho : okMark m = true := by simpa using hc
  (apply AWp_skip; simp only [AThen, ABlock]; refine hK _ _ ?_; clear hK K; refine AWp_seq_k (fun K hK => ?_); apply s_region; (iterate 3 (apply s_q; decide; rfl; (simp only [go_sem, hm3]; rfl))); apply s_call; decide; (simp only [go_sem, hm3]; rfl); (simp only [go_sem, hm3]; rfl); apply find_c p t m.user L (by omega) _ hB1; apply s_q; decide; rfl; (simp only [go_sem, hm3]; rfl); apply s_nil; simp only [AThen, ABlock]; refine hK _ _ ?_; clear hK K; (iterate 2 (refine AWp_seq_k (fun K hK => ?_))); apply s_region; (iterate 2 (apply s_q; decide; rfl; (simp only [go_sem, hm3]; rfl))); apply s_nil; simp only [AThen, ABlock]; refine hK _ _ ?_; clear hK K)
  have hb3p : b3 ≠ p := by rintro rfl; unfold RB at hB; rw [hb3] at hB; cases hB
  have hj : ∀ (s : AV) (L' : List Mark) (M : AHeap) (fr' : AFr), L'.length ≤ 100000 → ((∃ tl, s = .sl tl (L'.map Mark.cells)) ∨ ∃ b sn, s = .row b 3 (L'.map Mark.cells).length ∧ M.get b = some (.row 49 3 sn (L'.map Mark.cells)) ∧ H.get b = none) →
      M.get p = some (.box 38 [s]) → (∀ c o, c ≠ p → H.get c = some o → M.get c = some o) → M.get b3 = some (.box 49 [.s m.user, .v (.int .i64 m.at_), .v (.int .i64 m.ts)]) →
      (∀ t', Kc (.tup [.v (.bool true), .v (.int .i64 0)]) (H.put p (.box 38 [.sl t' ((ins m L').map Mark.cells)]))) → getAll [0, 3] fr' = [.v (.pointer (some ⟨p, 0, none⟩)), ptrTo b3] → K fr' M := fun s L' M0 fr' hl' hs hp0 hE0 hm0 hres hfr => hK _ _ (AWp_cut _ hfr (AWp_boxed (fun _ _ _ => rfl) hs hp0 hE0 hm0 hb3p (fun _ _ _ h => by cases h) (fun tl M hE hm => ?_)))
  rotate_left
  · clear hK K
    simp only [List.zip_cons_cons, List.zip_nil_right]
    have hMp : RB M p tl L' := hE p _ (AHeap.get_put_same _ _ _)
    (refine AWp_seq_k (fun K hK => ?_); apply s_region; apply s_q; decide; rfl; (simp only [go_sem]; rfl); apply s_nil; simp only [AThen, ABlock]; refine hK _ _ ?_; clear hK K; refine AWp_seq_k (fun K hK => ?_); apply s_region; apply s_q; decide; rfl; (simp only [go_sem]; rfl); apply s_nil; simp only [AThen, ABlock]; refine hK _ _ ?_; clear hK K; (iterate 2 (refine AWp_seq_k (fun K hK => ?_))); apply s_region; apply s_q; decide; rfl; (simp only [go_sem]; rfl); apply s_nil; simp only [AThen, ABlock]; refine hK _ _ ?_; clear hK K; apply AWp_block)
    refine AWp_loop_s (σ := Nat × Bool × List Mark × AV × AHeap) [0, 3, 8, 9, 10] (fun s => [.v (.pointer (some ⟨p, 0, none⟩)), ptrTo b3, s.2.2.2.1, .v (.bool s.2.1), .v (.int .i64 s.1)]) (fun s => s.2.2.2.2) (fun s => L'.length - s.1)
      (fun s => s.1 ≤ L'.length ∧ Gr 49 3 M (s.2.2.1.map Mark.cells) s.2.2.2.1 s.2.2.2.2 ∧ (s.2.1 = true → s.2.2.1 = ins m (L'.take s.1) ∧ ∃ y ∈ L'.take s.1, m.user < y.user) ∧ (s.2.1 = false → s.2.2.1 = L'.take s.1 ∧ ∀ y ∈ L'.take s.1, ¬ m.user < y.user))
      (0, false, [], .sl true [], M) ⟨Nat.zero_le _, .inl ⟨rfl, rfl, rfl⟩, (fun h => by cases h), fun _ => ⟨rfl, by simp⟩⟩ rfl rfl (fun s hs => ?_)
    obtain ⟨k, done, out, a, M2⟩ := s
    obtain ⟨hk, hG, hd1, hd0⟩ := hs
    simp only [List.zip_cons_cons, List.zip_nil_right] at hk hG hd1 hd0 ⊢
    have hp2 : M2.get p = some (.box 38 [.sl tl (L'.map Mark.cells)]) := hG.ext p _ hMp
    have hm2 := hG.ext b3 _ hm
    have hol : out.length ≤ k + 1 := by
      cases done with
      | false => rw [(hd0 rfl).1, List.length_take]; omega
      | true => rw [(hd1 rfl).1, ins_len, List.length_take]; omega
    ((iterate 2 (refine AWp_seq_k (fun K hK => ?_))); apply s_region; (iterate 7 (apply s_q; decide; rfl; (simp only [go_sem, hp2]; rfl))); apply s_nil; simp only [AThen, ABlock]; refine hK _ _ ?_; clear hK K)
    refine cond_split (by simp only [go_sem]; try rfl) (fun hc => ?_) (fun hc => ?_)
    · have hlt : k < L'.length := by simpa using hc
      obtain ⟨x, hx⟩ : ∃ a, L'[k]? = some a := ⟨_, List.getElem?_eq_getElem hlt⟩
      have hgx : (L'.map Mark.cells)[k]? = some [.s x.user, .v (.int .i64 x.at_), .v (.int .i64 x.ts)] := by rw [List.getElem?_map, hx]; rfl
      (apply AWp_skip; simp only [AThen, ABlock]; refine hK _ _ ?_; clear hK K; refine AWp_seq_k (fun K hK => ?_); apply AWp_block; (iterate 2 (refine AWp_seq_k (fun K hK => ?_))))
      apply AWp_drawA [0, 1, 2, 3, 4, 5, 6, 7, 8, 9, 10, 11, 12, 13, 14] [] 0 (by exact mixed); kernel_rfl; (simp only [go_sem]; rfl); (simp only [go_sem]; rfl)
      ((iterate 3 (apply e_q; decide; (simp only [go_sem, hp2, hgx, hm2]; rfl))); apply e_spec; decide; (simp only [go_sem, hp2, hgx, hm2]; rfl); (simp only [go_sem, hp2, hgx, hm2]; rfl); (simp only [go_sem, hp2, hgx, hm2]; rfl); (simp only [go_sem, hp2, hgx, hm2]; rfl); trivial; (iterate 3 (apply e_spec; decide; (simp only [go_sem, hp2, hgx, hm2]; rfl); (simp only [go_sem, hp2, hgx, hm2]; rfl); (simp only [go_sem, hp2, hgx, hm2]; rfl); (simp only [go_sem, hp2, hgx, hm2]; rfl); simp [condsOk])); apply e_spec; decide; (simp only [go_sem, hp2, hgx, hm2]; rfl); (simp only [go_sem, hp2, hgx, hm2]; rfl); (simp only [go_sem, hp2, hgx, hm2]; rfl); (simp only [go_sem, hp2, hgx, hm2]; rfl); trivial; (iterate 3 (apply e_spec; decide; (simp only [go_sem, hp2, hgx, hm2]; rfl); (simp only [go_sem, hp2, hgx, hm2]; rfl); (simp only [go_sem, hp2, hgx, hm2]; rfl); (simp only [go_sem, hp2, hgx, hm2]; rfl); simp [condsOk])); apply e_spec; decide; (simp only [go_sem, hp2, hgx, hm2]; rfl); (simp only [go_sem, hp2, hgx, hm2]; rfl); (simp only [go_sem, hp2, hgx, hm2]; rfl); (simp only [go_sem, hp2, hgx, hm2]; rfl); trivial; (iterate 2 (apply e_spec; decide; (simp only [go_sem, hp2, hgx, hm2]; rfl); (simp only [go_sem, hp2, hgx, hm2]; rfl); (simp only [go_sem, hp2, hgx, hm2]; rfl); (simp only [go_sem, hp2, hgx, hm2]; rfl); simp [condsOk])); apply e_pick; decide; (simp only [go_sem, hp2, hgx, hm2]; rfl); (simp only [go_sem, hp2, hgx, hm2]; rfl); (simp only [go_sem, hp2, hgx, hm2]; rfl); (simp only [go_sem, hp2, hgx, hm2]; rfl); (simp only [go_sem, hp2, hgx, hm2]; rfl); (simp only [go_sem, hp2, hgx, hm2]; rfl); trivial; simp [condsOk]; trivial; apply e_nil; apply t_nil; simp only [AThen, ABlock]; refine hK _ _ ?_; clear hK K)
      have e : (if (!done) = true then !(blt x.user m.user || decide (x.user = m.user)) else false) = (!done && decide (m.user < x.user)) := by rw [gtr_eq]; cases done <;> rfl
      rw [e]
      refine cond_split (by simp only [go_sem]; try rfl) (fun hq => ?_) (fun hq => ?_)
      · have hdf : done = false := by cases done <;> simp at hq ⊢
        subst hdf
        have hlt2 : m.user < x.user := by simpa using hq
        obtain ⟨rfl, hall⟩ := hd0 rfl
        (refine AWp_seq_k (fun K hK => ?_); apply s_region; (iterate 2 (apply s_q; decide; rfl; (simp only [go_sem, hm2]; rfl))); apply s_lit; decide; exact el_35; (simp only [go_sem, hm2]; rfl); (simp only [go_sem, hm2]; rfl); decide; apply s_append; decide; (simp only [go_sem, hm2]; rfl); (simp only [go_sem, hm2]; rfl); apply AApp_map el_35 hG (l := L'.take k) (m := [m]) (g := Mark.cells) rfl rfl tk_35 mark_one (by simp; omega) (by simp; omega); intro s1 H1 hG1; apply s_q; decide; rfl; (simp only [go_sem, hm2]; rfl); apply s_nil; simp only [AThen, ABlock]; refine hK _ _ ?_; clear hK K; apply s_region; apply s_q; decide; rfl; (simp only [go_sem, hm2]; rfl); apply s_nil; simp only [AThen, ABlock]; refine hK _ _ ?_; clear hK K; apply s_region; (iterate 4 (apply s_q; decide; rfl; (simp only [go_sem, hm2]; rfl))))
        have hp3 : H1.get p = some (.box 38 [.sl tl (L'.map Mark.cells)]) := hG1.ext p _ hMp
        ((iterate 4 (apply s_q; decide; rfl; (simp only [go_sem, hp3, hgx]; rfl))); apply s_lit; decide; exact el_35; (simp only [go_sem, hp3, hgx]; rfl); (simp only [go_sem, hp3, hgx]; rfl); decide; apply s_append; decide; (simp only [go_sem, hp3, hgx]; rfl); (simp only [go_sem, hp3, hgx]; rfl); apply AApp_map el_35 hG1 (l := L'.take k ++ [m]) (m := [x]) (g := Mark.cells) rfl rfl tk_35 mark_one (by simp; omega) (by simp; omega); intro s2 H2 hG2; apply s_q; decide; rfl; (simp only [go_sem, hp3, hgx]; rfl); apply s_nil; simp only [AThen, ABlock]; refine hK _ _ ?_; clear hK K; apply s_region; (iterate 3 (apply s_q; decide; rfl; (simp only [go_sem, hp3, hgx]; rfl))); apply s_nil; simp only [AThen, ABlock])
        refine ⟨(k + 1, true, L'.take k ++ [m] ++ [x], s2, H2), by simp only; omega, ⟨by simp only; omega, hG2, fun _ => ?_, fun h => by cases h⟩, ?_, by trivial⟩
        · simp only
          rw [List.take_add_one, hx]
          exact ⟨(ins_here hall hlt2).symm, x, by simp, hlt2⟩
        · simp only [getAll, List.map_cons, List.map_nil, AFr.get, reduceIte, Nat.reduceEqDiff]
          rw [wrapS hlt (by omega)]; try rfl
      · (apply AWp_skip; simp only [AThen, ABlock]; refine hK _ _ ?_; clear hK K; apply s_region; (iterate 8 (apply s_q; decide; rfl; (simp only [go_sem, hp2, hgx]; rfl))); apply s_lit; decide; exact el_35; (simp only [go_sem, hp2, hgx]; rfl); (simp only [go_sem, hp2, hgx]; rfl); decide; apply s_append; decide; (simp only [go_sem, hp2, hgx]; rfl); (simp only [go_sem, hp2, hgx]; rfl); apply AApp_map el_35 hG (l := out) (m := [x]) (g := Mark.cells) rfl rfl tk_35 mark_one (by simp; omega) (by simp; omega); intro s2 H2 hG2; apply s_q; decide; rfl; (simp only [go_sem, hp2, hgx]; rfl); apply s_nil; simp only [AThen, ABlock]; refine hK _ _ ?_; clear hK K; apply s_region; (iterate 3 (apply s_q; decide; rfl; (simp only [go_sem, hp2, hgx]; rfl))); apply s_nil; simp only [AThen, ABlock])
        refine ⟨(k + 1, done, out ++ [x], s2, H2), by simp only; omega, ⟨by simp only; omega, hG2, fun hd => ?_, fun hd => ?_⟩, ?_, by trivial⟩
        · simp only at hd ⊢
          obtain ⟨rfl, y, hy, hly⟩ := hd1 hd
          rw [List.take_add_one, hx]
          exact ⟨(ins_past ⟨y, hy, hly⟩).symm, y, by simp [hy], hly⟩
        · simp only at hd ⊢
          obtain ⟨rfl, hall⟩ := hd0 hd
          rw [List.take_add_one, hx]
          refine ⟨rfl, fun y hy => ?_⟩
          rcases List.mem_append.1 hy with hy | hy
          · exact hall y hy
          · simp at hy; subst hy
            subst hd
            simpa using hq
        · simp only [getAll, List.map_cons, List.map_nil, AFr.get, reduceIte, Nat.reduceEqDiff]
          rw [wrapS hlt (by omega)]; try rfl
    · have hge : L'.length ≤ k := by simpa using hc
      rw [List.take_of_length_le hge] at hd1 hd0
      (apply AWp_exit; simp only [AThen, ABlock, reduceIte, Nat.reduceEqDiff]; clear hK K; refine hK _ _ ?_; clear hK K; (iterate 2 (refine AWp_seq_k (fun K hK => ?_))); apply s_region; (iterate 2 (apply s_q; decide; rfl; (simp only [go_sem, hm2]; rfl))); apply s_nil; simp only [AThen, ABlock]; refine hK _ _ ?_; clear hK K)
      have hfin : ∀ (s3 : AV) (M3 : AHeap) (fr3 : AFr), Gr 49 3 M ((ins m L').map Mark.cells) s3 M3 → getAll [0, 8] fr3 = [.v (.pointer (some ⟨p, 0, none⟩)), s3] → K fr3 M3 := fun s3 M3 fr3 hG3 hfr3 => hK _ _ (AWp_cut _ hfr3 ?_)
      rotate_left
      · clear hK K
        have hne : (ins m L').map Mark.cells ≠ [] := by
          intro h0
          have := congrArg List.length h0
          rw [List.length_map, ins_len] at this
          simp at this
        obtain ⟨bo, hbo, rfl, rfl⟩ := hG3.row hne
        have hpM : M.get p = some (.box 38 [.sl tl (L'.map Mark.cells)]) := hMp
        have hpo : p ≠ bo := by rintro rfl; rw [hbo] at hpM; cases hpM
        have hp3 := get_fresh (x := .row 49 3 false ((ins m L').map Mark.cells)) hpM hbo
        simp only [List.zip_cons_cons, List.zip_nil_right]
        refine AWp_seq_k (fun K hK => ?_)
        apply s_region
        ((iterate 4 (apply s_q; decide; rfl; (simp only [go_sem, hp3]; rfl))); apply s_store; (simp only [go_sem, hp3]; rfl); (simp only [go_sem, hp3]; rfl); (simp only [go_sem, hp3]; rfl))
        apply s_nil; simp only [AThen, ABlock]; refine hK _ _ ?_; clear hK K
        refine AWp.snapBox (b := bo) (p := p) (by rw [AHeap.get_put, if_neg hpo.symm]; exact AHeap.get_put_same _ _ _) (AHeap.get_put_same _ _ _) ?_
        simp only [AFr.snap, AV.snap, AV.snaps, if_true, List.length_map, Nat.le_refl, and_self]
        (refine AWp_seq_k (fun K hK => ?_); apply s_region; (iterate 2 (apply s_q; decide; rfl; (simp only [go_sem]; rfl))); apply s_nil; simp only [AThen, ABlock]; refine hK _ _ ?_; clear hK K; apply AWp_ret)
        have htk : List.take (ins m L').length (List.map Mark.cells (ins m L')) = (ins m L').map Mark.cells := List.take_of_length_le (by simp)
        rw [htk]
        refine end_ret (av := .tup [.v (.bool true), .v (.int .i64 0)]) (by show resAV X.P _ _ [.tmp 4, .tmp 5] = _; simp only [go_sem]; try rfl) ⟨H.put p (.box 38 [.sl false ((ins m L').map Mark.cells)]), fun c o hco => ?_, hres false⟩
        rw [AHeap.get_put] at hco ⊢
        by_cases e : c = p
        · rw [if_pos e] at hco ⊢; exact hco
        · rw [if_neg e] at hco ⊢
          have h1 := hE c o (by rw [AHeap.get_put, if_neg e]; exact hco)
          have h2 : c ≠ bo := by rintro rfl; rw [h1] at hbo; cases hbo
          rw [AHeap.get_put, if_neg h2, AHeap.get_put, if_neg e, AHeap.get_put, if_neg h2]
          exact h1
      clear hK
      refine cond_split (by simp only [go_sem]; try rfl) (fun hq => ?_) (fun hq => ?_)
      · have hdf : done = false := by simpa using hq
        obtain ⟨e0, hall⟩ := hd0 hdf
        rw [e0] at hG
        (apply s_region; (iterate 2 (apply s_q; decide; rfl; (simp only [go_sem, hm2]; rfl))); apply s_lit; decide; exact el_35; (simp only [go_sem, hm2]; rfl); (simp only [go_sem, hm2]; rfl); decide; apply s_append; decide; (simp only [go_sem, hm2]; rfl); (simp only [go_sem, hm2]; rfl); apply AApp_map el_35 hG (l := L') (m := [m]) (g := Mark.cells) rfl rfl tk_35 mark_one (by simp; omega) (by simp; omega); intro s3 M3 hG3; apply s_q; decide; rfl; (simp only [go_sem, hm2]; rfl); apply s_nil; simp only [AThen, ABlock])
        rw [← ins_end hall] at hG3
        exact hfin _ _ _ hG3 rfl
      · have hdt : done = true := by simpa using hq
        obtain ⟨e0, _⟩ := hd1 hdt
        rw [e0] at hG
        (apply AWp_skip; simp only [AThen, ABlock])
        exact hfin _ _ _ hG rfl
  clear hK
  cases hp : place m.user L with
  | none =>
    have e1 : placeI m.user L = -1 := by rw [placeI, hp]
    have e2 : rput m L = (true, 0, ins m L) := by simp [rput, ho, hp]
    rw [e1]
    rw [e2] at h
    refine cond_split (by simp only [go_sem]; try rfl) (fun hc => ?_) (fun hc => ?_)
    · simp at hc
    · (apply AWp_skip; simp only [AThen, ABlock])
      exact hj _ L _ _ hl (.inl ⟨t, rfl⟩) hB1 (fun c o _ hc => get_fresh hc hb3) hm3 h rfl
  | some i =>
    rw [hp] at hpf
    obtain ⟨hi, o, hlo, hfo⟩ := hpf
    have e1 : placeI m.user L = i := by rw [placeI, hp]
    have hg : (L.map Mark.cells)[i]? = some [.s o.user, .v (.int .i64 o.at_), .v (.int .i64 o.ts)] := by rw [List.getElem?_map, hlo]; rfl
    have hB1' : (H.put b3 (.box 49 [.s m.user, .v (.int .i64 m.at_), .v (.int .i64 m.ts)])).get p = some (.box 38 [.sl t (L.map Mark.cells)]) := hB1
    rw [e1]
    refine cond_split (by simp only [go_sem]; try rfl) (fun hc => ?_) (fun hc => ?_)
    · (refine AWp_seq_k (fun K hK => ?_); apply s_region; (iterate 7 (apply s_q; decide; rfl; (simp only [go_sem, hB1', hg]; rfl))); apply s_alloc; decide; exact zc_49; intro b hb; apply s_store; (simp only [go_sem, hB1', hg]; rfl); (simp only [go_sem, hB1', hg]; rfl); (simp only [go_sem, hB1', hg]; rfl); apply s_nil; simp only [AThen, ABlock]; refine hK _ _ ?_; clear hK K; (iterate 2 (refine AWp_seq_k (fun K hK => ?_))); apply s_region; apply s_q; decide; rfl; (simp only [go_sem, hB1', hg]; rfl))
      revert hb; revert b; intro b7 hb7
      have hm7 := get_fresh (x := .box 49 [.s o.user, .v (.int .i64 o.at_), .v (.int .i64 o.ts)]) hm3 hb7
      have hp7 := get_fresh (x := .box 49 [.s o.user, .v (.int .i64 o.at_), .v (.int .i64 o.ts)]) hB1' hb7
      have ho7 := AHeap.get_put_same b7 (.box 49 [.s o.user, .v (.int .i64 o.at_), .v (.int .i64 o.ts)]) (H.put b3 (.box 49 [.s m.user, .v (.int .i64 m.at_), .v (.int .i64 m.ts)]))
      ((iterate 5 (apply s_q; decide; rfl; (simp only [go_sem, hm7, hp7, ho7]; rfl))); apply s_spec; decide; rfl; rfl; (simp only [go_sem, hm7, hp7, ho7]; rfl); (simp only [go_sem, hm7, hp7, ho7]; rfl); (simp only [go_sem, hm7, hp7, ho7]; rfl); (simp only [go_sem, hm7, hp7, ho7]; rfl); trivial; apply s_spec; decide; rfl; rfl; (simp only [go_sem, hm7, hp7, ho7]; rfl); (simp only [go_sem, hm7, hp7, ho7]; rfl); (simp only [go_sem, hm7, hp7, ho7]; rfl); (simp only [go_sem, hm7, hp7, ho7]; rfl); simp [condsOk]; apply s_spec; decide; rfl; rfl; (simp only [go_sem, hm7, hp7, ho7]; rfl); (simp only [go_sem, hm7, hp7, ho7]; rfl); (simp only [go_sem, hm7, hp7, ho7]; rfl); (simp only [go_sem, hm7, hp7, ho7]; rfl); trivial; (iterate 3 (apply s_spec; decide; rfl; rfl; (simp only [go_sem, hm7, hp7, ho7]; rfl); (simp only [go_sem, hm7, hp7, ho7]; rfl); (simp only [go_sem, hm7, hp7, ho7]; rfl); (simp only [go_sem, hm7, hp7, ho7]; rfl); simp [condsOk])); apply s_spec; decide; rfl; rfl; (simp only [go_sem, hm7, hp7, ho7]; rfl); (simp only [go_sem, hm7, hp7, ho7]; rfl); (simp only [go_sem, hm7, hp7, ho7]; rfl); (simp only [go_sem, hm7, hp7, ho7]; rfl); trivial; apply s_spec; decide; rfl; rfl; (simp only [go_sem, hm7, hp7, ho7]; rfl); (simp only [go_sem, hm7, hp7, ho7]; rfl); (simp only [go_sem, hm7, hp7, ho7]; rfl); (simp only [go_sem, hm7, hp7, ho7]; rfl); simp [condsOk]; apply s_spec; decide; rfl; rfl; (simp only [go_sem, hm7, hp7, ho7]; rfl); (simp only [go_sem, hm7, hp7, ho7]; rfl); (simp only [go_sem, hm7, hp7, ho7]; rfl); (simp only [go_sem, hm7, hp7, ho7]; rfl); trivial; (iterate 2 (apply s_spec; decide; rfl; rfl; (simp only [go_sem, hm7, hp7, ho7]; rfl); (simp only [go_sem, hm7, hp7, ho7]; rfl); (simp only [go_sem, hm7, hp7, ho7]; rfl); (simp only [go_sem, hm7, hp7, ho7]; rfl); simp [condsOk])); apply s_pickg; decide; (simp only [go_sem, hm7, hp7, ho7]; rfl); (simp only [go_sem, hm7, hp7, ho7]; rfl); (simp only [go_sem, hm7, hp7, ho7]; rfl); (simp only [go_sem, hm7, hp7, ho7]; rfl); (simp only [go_sem, hm7, hp7, ho7]; rfl); (simp only [go_sem, hm7, hp7, ho7]; rfl); (simp only [go_sem, hm7, hp7, ho7]; rfl); (simp only [go_sem, hm7, hp7, ho7]; rfl); simp [condsOk]; simp [condsOk]; trivial; apply s_pick; decide; (simp only [go_sem, hm7, hp7, ho7]; rfl); (simp only [go_sem, hm7, hp7, ho7]; rfl); (simp only [go_sem, hm7, hp7, ho7]; rfl); (simp only [go_sem, hm7, hp7, ho7]; rfl); (simp only [go_sem, hm7, hp7, ho7]; rfl); (simp only [go_sem, hm7, hp7, ho7]; rfl); trivial; trivial; simp [condsOk]; apply s_nil; simp only [AThen, ABlock]; refine hK _ _ ?_; clear hK K)
      have hle : (if decide (m.at_ < o.at_) = true then true else if decide (m.at_ = o.at_) = true then decide (m.ts ≤ o.ts) else false) = decide (Le m o) := by
        simp only [Le]
        by_cases h1 : m.at_ < o.at_ <;> by_cases h2 : m.at_ = o.at_ <;> by_cases h3 : m.ts ≤ o.ts <;> simp [h1, h2, h3]
      rw [hle]
      refine cond_split (by simp only [go_sem]; try rfl) (fun hq => ?_) (fun hq => ?_)
      · have hle2 : Le m o := by simpa using hq
        (refine AWp_seq_k (fun K hK => ?_); apply s_region; (iterate 2 (apply s_q; decide; rfl; (simp only [go_sem]; rfl))); apply s_nil; simp only [AThen, ABlock]; refine hK _ _ ?_; clear hK K; apply AWp_ret; simp only [AThen, ABlock]; apply end_ret; rfl; simp only [AFr.get, reduceIte, Nat.reduceEqDiff])
        have e2 : rput m L = (false, 0, L) := by simp [rput, ho, hp, hlo, hle2]
        rw [e2] at hsame
        simp only at hsame
        rw [put_same hB] at hsame
        exact ⟨H, Ext.over (Ext.fresh hb3) (none_fresh hb7), hsame⟩
      · have hle2 : ¬ Le m o := by simpa using hq
        have e2 : rput m L = (true, 0, ins m (L.take i ++ L.drop (i + 1))) := by simp [rput, ho, hp, hlo, hle2]
        rw [e2] at h
        (apply AWp_skip; simp only [AThen, ABlock]; refine hK _ _ ?_; clear hK K)
        apply AWp_drawA [0, 1, 2, 3, 4, 5, 6, 7, 9, 10, 11, 12, 13, 14, 15, 17, 18] [8, 16, 19] 2 (by exact mixed); kernel_rfl; (simp only [go_sem]; rfl); (simp only [go_sem]; rfl)
        have f1 : (i ≤ L.length) = True := by simp; omega
        have f2 : (i + 1 ≤ L.length) = True := by simp; omega
        have f3 : ((L.map Mark.cells).all fun c => c.length == 3) = true := by simp [Mark.cells]
        have f4 : IntKind.i64.wrap ((i : Int) + 1) = ((i + 1 : Nat) : Int) := wrapS hi (by omega)
        (apply e_q; decide; (simp only [go_sem, hp7, f1, f2, f3, f4, Nat.le_refl]; rfl); apply e_lit; decide; exact el_35; (simp only [go_sem, hp7, f1, f2, f3, f4, Nat.le_refl]; rfl); (simp only [go_sem, hp7, f1, f2, f3, f4, Nat.le_refl]; rfl); decide; (iterate 15 (apply e_q; decide; (simp only [go_sem, hp7, f1, f2, f3, f4, Nat.le_refl]; rfl))); apply e_nil; apply t_append; decide; (simp only [go_sem, hp7, f1, f2, f3, f4, Nat.le_refl]; rfl); (simp only [go_sem, hp7, f1, f2, f3, f4, Nat.le_refl]; rfl); apply AApp_map el_35 (Gr.nil _ _ _) (l := []) (m := L.take i) (g := Mark.cells) rfl (by simp) tk_35 mark_one (by simp; omega) (by simp; omega); intro s1 H1 hG1; have hx1 := hG1.ext; refine ⟨by (intro _; assumption), ?_⟩)
        have hp8 := hG1.ext p _ hp7
        (apply t_append; decide; (simp only [go_sem, hp7]; rfl); (simp only [go_sem, hp7]; rfl); apply AApp_map el_35 hG1 (l := [] ++ L.take i) (m := L.drop (i + 1)) (g := Mark.cells) rfl (by rw [List.take_of_length_le (by simp), List.map_drop]) tk_35 mark_one (by simp; omega) (by simp; omega); intro s2 H2 hG2; have hx2 := hG2.ext; refine ⟨by (intro _; assumption), ?_⟩)
        have hp9 := hG2.ext p _ hp7
        rw [List.nil_append] at hG2
        have hm9 := hG2.ext b3 _ hm7
        have hE9 : ∀ c o', H.get c = some o' → H2.get c = some o' := fun c o' hco => hG2.ext c o' (get_fresh (get_fresh hco hb3) hb7)
        have hr9 : (s2 = .sl true [] ∧ (L.take i ++ L.drop (i + 1)).map Mark.cells = []) ∨ ∃ b, s2 = .row b 3 ((L.take i ++ L.drop (i + 1)).map Mark.cells).length ∧ H2.get b = some (.row 49 3 false ((L.take i ++ L.drop (i + 1)).map Mark.cells)) ∧ H.get b = none ∧ b ≠ p := by
          rcases hG2 with ⟨rfl, he, rfl⟩ | ⟨bb, hbb, rfl, rfl⟩
          · exact .inl ⟨rfl, he⟩
          · exact .inr ⟨bb, rfl, AHeap.get_put_same _ _ _, none_fresh (none_fresh hbb), by rintro rfl; rw [hp7] at hbb; cases hbb⟩
        have hlen9 : (L.take i ++ L.drop (i + 1)).length ≤ 100000 := by simp; omega
        clear hG2 hx2
        rcases hr9 with ⟨rfl, he⟩ | ⟨bb, rfl, hb9, hbn, hbp⟩
        · (apply t_storex; (simp only [go_sem, hp9]; rfl); (simp only [go_sem, hp9]; rfl); (simp only [go_sem, hp9]; rfl); (first | (intro _; exact Ext.put (Ext.refl _) (by assumption)) | (intro h; exact absurd h (by decide)) | (intro _; exact Ext.put (by assumption) (by assumption))); apply t_nil; simp only [AThen, ABlock])
          exact hj (.sl true []) (L.take i ++ L.drop (i + 1)) _ _ hlen9 (.inl ⟨true, by rw [he]⟩) (AHeap.get_put_same _ _ _) (fun c o' hcp hco => get_other (hE9 c o' hco) hcp) (get_other hm9 hb3p) h rfl
        · (apply t_storex; (simp only [go_sem, hp9]; rfl); (simp only [go_sem, hp9]; rfl); (simp only [go_sem, hp9]; rfl); (first | (intro _; exact Ext.put (Ext.refl _) (by assumption)) | (intro h; exact absurd h (by decide)) | (intro _; exact Ext.put (by assumption) (by assumption))); apply t_nil; simp only [AThen, ABlock])
          exact hj (.row bb 3 ((L.take i ++ L.drop (i + 1)).map Mark.cells).length) (L.take i ++ L.drop (i + 1)) _ _ hlen9 (.inr ⟨bb, false, rfl, get_other hb9 hbp, hbn⟩) (by rw [List.length_map]; exact AHeap.get_put_same _ _ _) (fun c o' hcp hco => get_other (hE9 c o' hco) hcp) (get_other hm9 hb3p) h rfl
    · simp at hc <;> omega
end Go.Proofs.YtpdfgmedbphmkaaGreatDoor
