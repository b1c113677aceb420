/-
  The newest of events. Contract.
-/
import Derived.Test.YtmloandpjbimkaaW25C
set_option linter.unusedSimpArgs false
set_option linter.unusedVariables false
set_option maxRecDepth 100000
namespace Go.Proofs.Ytmloandpjbimkaa
open Go Go.AL
attribute [local irreducible] AOps AWp SOps AE AT ACall AApp

/-- is an event behind another one, by time and name? -/
def later (a b : Kn) : Bool := decide (b.ev.ts < a.ev.ts) || (decide (a.ev.ts = b.ev.ts) && decide (b.name < a.name))
theorem later_cmp (a b : Kn) : decide (0 < firstNZ [cmp a.ev.ts b.ev.ts, cmpS a.name b.name]) = later a b := by
  unfold later firstNZ
  by_cases h1 : cmp a.ev.ts b.ev.ts = 0
  · rw [if_pos h1]
    have e := cmp_zero.1 h1
    have hl : ¬ b.ev.ts < a.ev.ts := by omega
    simp only [firstNZ, hl, e, decide_true, Bool.true_and]
    unfold cmpS
    by_cases h2 : a.name < b.name
    · have : ¬ b.name < a.name := fun h => lt_irr _ (lt_tr h h2)
      simp [h2, this]
    · by_cases h3 : b.name < a.name
      · simp [h2, h3]
      · simp [h2, h3]
  · rw [if_neg h1]
    unfold cmp at h1 ⊢
    by_cases h2 : a.ev.ts < b.ev.ts
    · have h3 : ¬ b.ev.ts < a.ev.ts := by omega
      have h4 : ¬ a.ev.ts = b.ev.ts := by omega
      simp [h2, h3, h4]
    · by_cases h3 : b.ev.ts < a.ev.ts
      · simp [h2, h3]
      · exact absurd (by rw [if_neg h2, if_neg h3]) h1
theorem later_irr (a : Kn) : later a a = false := by simp [later, lt_irr]
theorem later_tr {a b c : Kn} (h : later a b = true) (k : later b c = true) : later a c = true := by
  simp only [later, Bool.or_eq_true, Bool.and_eq_true, decide_eq_true_eq] at *
  rcases h with h | ⟨h1, h2⟩ <;> rcases k with k | ⟨k1, k2⟩
  · left; omega
  · left; omega
  · left; omega
  · right; exact ⟨by omega, lt_tr k2 h2⟩
theorem later_tot {a b : Kn} (h : later a b = false) (k : later b a = false) : a.name = b.name := by
  simp only [later, Bool.or_eq_false_iff, Bool.and_eq_false_imp, decide_eq_false_iff_not, decide_eq_true_eq] at *
  have e : a.ev.ts = b.ev.ts := by omega
  rcases lt_tri a.name b.name with h1 | h1 | h1
  · exact absurd h1 (k.2 e.symm)
  · exact h1
  · exact absurd h1 (h.2 e)
theorem later_asym {a b : Kn} (h : later a b = true) : later b a = false := by
  cases k : later b a with
  | false => rfl
  | true => have := later_tr h k; rw [later_irr] at this; cases this
def nstep (acc : Option Kn) (k : Kn) : Option Kn := match acc with
  | none => some k
  | some b => if later k b then some k else some b
def newestL (l : List Kn) : Option Kn := l.foldl nstep none
/-- what is newest of all -/
def Newest (l : List Kn) (o : Option Kn) : Prop := (o = none ↔ l = []) ∧ ∀ k, o = some k → k ∈ l ∧ ∀ x ∈ l, later x k = false
theorem nstep_new {l : List Kn} {o : Option Kn} {k : Kn} (h : Newest l o) : Newest (l ++ [k]) (nstep o k) := by
  cases o with
  | none =>
    have : l = [] := h.1.1 rfl
    subst this
    exact ⟨by simp [nstep], fun x hx => by simp [nstep] at hx; subst hx; simp [later_irr]⟩
  | some b =>
    obtain ⟨h1, h2⟩ := h.2 b rfl
    simp only [nstep]
    by_cases hb : later k b = true
    · rw [if_pos hb]
      refine ⟨by simp, fun x hx => ?_⟩
      cases hx
      refine ⟨by simp, fun y hy => ?_⟩
      rcases List.mem_append.1 hy with hy | hy
      · cases hyk : later y k with
        | false => rfl
        | true => rw [← h2 y hy]; exact (later_tr hyk hb).symm ▸ rfl
      · simp at hy; subst hy; exact later_irr _
    · rw [if_neg hb]
      refine ⟨by simp, fun x hx => ?_⟩
      cases hx
      refine ⟨by simp [h1], fun y hy => ?_⟩
      rcases List.mem_append.1 hy with hy | hy
      · exact h2 y hy
      · simp at hy; subst hy; simpa using hb
theorem newest_ok (l : List Kn) : Newest l (newestL l) := by
  have : ∀ (m l : List Kn) (o : Option Kn), Newest l o → Newest (l ++ m) (m.foldl nstep o) := fun m => by
    induction m with
    | nil => intro l o h; simpa using h
    | cons a m ih => intro l o h; have := ih (l ++ [a]) (nstep o a) (nstep_new h); simpa using this
  have := this l [] none ⟨by simp, by simp⟩
  rwa [List.nil_append] at this
theorem name_inj {l : List Kn} (hn : (l.map (·.name)).Nodup) {a b : Kn} (ha : a ∈ l) (hb : b ∈ l) (h : a.name = b.name) : a = b := by
  obtain ⟨i, hi⟩ := List.mem_iff_getElem?.1 ha
  obtain ⟨j, hj⟩ := List.mem_iff_getElem?.1 hb
  have : i = j := nodup_inj (a := a.name) hn (by rw [List.getElem?_map, hi]; rfl) (by rw [List.getElem?_map, hj, h]; rfl)
  subst this
  rw [hi] at hj; cases hj; rfl
theorem newest_uniq {l m : List Kn} {o : Option Kn} (hn : (l.map (·.name)).Nodup) (h : Newest m o) (hm : ∀ x, x ∈ m ↔ x ∈ l) : o = newestL l := by
  have h2 := newest_ok l
  cases o with
  | none =>
    have : m = [] := h.1.1 rfl
    subst this
    have : l = [] := List.eq_nil_iff_forall_not_mem.2 fun x hx => by have := (hm x).2 hx; cases this
    subst this; rfl
  | some a =>
    cases hq : newestL l with
    | none =>
      have := h2.1.1 hq
      subst this
      have := (hm a).1 (h.2 a rfl).1
      cases this
    | some b =>
      obtain ⟨a1, a2⟩ := h.2 a rfl
      obtain ⟨b1, b2⟩ := h2.2 b hq
      have ha := (hm a).1 a1
      rw [name_inj hn ha b1 (later_tot (b2 a ha) (a2 b ((hm b).2 b1)))]
def kn0 : Kn := ⟨[], ev0⟩
/-- the best one so far, in its variable -/
def bestCs : Option Kn → List AV
  | some k => k.cells
  | none => [.s [], .s [], .s [], .s [], .v (.bool false), .s [], .v (.int .i64 0), .v (.int .i64 0), .s [], .sl true [], .sl true [], .sl true [], .sl true [], .v (.int .i64 0), .v (.int .i64 0), .s [], .sl true []]
theorem best_loosen (o : Option Kn) : AV.loosens (bestCs o) = (o.getD kn0).cells := by
  cases o with
  | none => rfl
  | some k =>
    show AV.loosens k.cells = k.cells
    rw [kn_eq]; simp only [AV.loosens, AV.loosen, Ev.loosen]
set_option maxHeartbeats 4000000 in
theorem newest_c (q : Nat) (ks : List Kn) (hnd : (ks.map (·.name)).Nodup) (H : AHeap) (hq : H.get q = some (.smap (kEnts ks))) (K : AV → AHeap → Prop) (h : K (.agg ((newestL ks).getD kn0).cells) H) : ACall X 36 [.v (.map (some q))] H K := by
  refine ACall.loose (ACall.drop ?_)
  refine ACall_intro Try.func36 rfl (by kernel_rfl) (by rw [Try.ntmps36]; simp) ?_; rw [Try.ntmps36]; simp only [frame0, Nat.reduceAdd]
  refine AWp_seq_k (fun K hK => ?_); apply s_region
  (apply s_alloc; decide; exact zc_35; intro b hb; apply s_nil; simp only [AThen, ABlock]; refine hK _ _ ?_; clear hK K; refine AWp_seq_k (fun K hK => ?_); apply s_region; apply s_alloc; decide; exact zc_35; intro b hb; apply s_nil; simp only [AThen, ABlock]; refine hK _ _ ?_; clear hK K; refine AWp_seq_k (fun K hK => ?_); apply s_region; apply s_q; decide; rfl; (simp only [go_sem]; rfl); apply s_nil; simp only [AThen, ABlock]; refine hK _ _ ?_; clear hK K; (iterate 2 (refine AWp_seq_k (fun K hK => ?_))); apply s_region; apply s_q; decide; rfl; (simp only [go_sem]; rfl))
  rename_i p2 hp2 K0 hK0
  obtain ⟨p3, rfl⟩ : ∃ p, p = b := ⟨_, rfl⟩
  have hp3 := hb
  clear hb
  have e2 := get_fresh (AHeap.get_put_same p2 (.box 35 (bestCs none)) H) hp3 (x := .box 35 (bestCs none))
  have e3 := AHeap.get_put_same p3 (.box 35 (bestCs none)) (H.put p2 (.box 35 (bestCs none)))
  have hE := (Ext.fresh hp2 (o := .box 35 (bestCs none))).put hp3 (ob := .box 35 (bestCs none))
  have hn3 := none_fresh hp3
  have hq' := hE q _ hq
  show SOps X _ _ _ _ _ ((H.put p2 (.box 35 (bestCs none))).put p3 (.box 35 (bestCs none)))
  generalize (H.put p2 (.box 35 (bestCs none))).put p3 (.box 35 (bestCs none)) = M at e2 e3 hE hq' ⊢
  apply s_rangeD; decide; exact Try.underlying62; exact (by simp only [go_sem]; try rfl); exact hq'
  intro ents clock r hsz hbn hr
  have hne : (kEnts ks).length = ks.length := by simp [kEnts]
  rw [hne] at hsz ⊢
  have hrq : r ≠ q := by rintro rfl; rw [hq'] at hr; cases hr
  have h23 : p2 ≠ q := by rintro rfl; rw [hp2] at hq; cases hq
  have h33 : p3 ≠ q := by rintro rfl; rw [hn3] at hq; cases hq
  have hr2 : r ≠ p2 := by rintro rfl; rw [e2] at hr; cases hr
  have hr3 : r ≠ p3 := by rintro rfl; rw [e3] at hr; cases hr
  have hH : ∀ c o, c ≠ q → H.get c = some o → ((M.put q (struck ents clock (kEnts ks) (List.range ks.length))).put r (.walk q ents clock [])).get c = some o := fun c o hc ho => by
    have hcr : c ≠ r := by rintro rfl; rw [hE c o ho] at hr; cases hr
    rw [AHeap.get_put_ne _ _ hcr, AHeap.get_put_ne _ _ hc]; exact hE c o ho
  have hHr : H.get r = none := none_of_ext hE hr
  have f1 : ((M.put q (struck ents clock (kEnts ks) (List.range ks.length))).put r (.walk q ents clock [])).get q = some (struck ents clock (kEnts ks) (List.range ks.length)) := by rw [AHeap.get_put_ne _ _ (Ne.symm hrq)]; exact AHeap.get_put_same _ _ _
  have f2 : ((M.put q (struck ents clock (kEnts ks) (List.range ks.length))).put r (.walk q ents clock [])).get r = some (.walk q ents clock []) := AHeap.get_put_same _ _ _
  have f3 : ((M.put q (struck ents clock (kEnts ks) (List.range ks.length))).put r (.walk q ents clock [])).get p3 = some (.box 35 (bestCs none)) := by rw [AHeap.get_put_ne _ _ (Ne.symm hr3), AHeap.get_put_ne _ _ h33]; exact e3
  have f4 : ((M.put q (struck ents clock (kEnts ks) (List.range ks.length))).put r (.walk q ents clock [])).get p2 = some (.box 35 (bestCs none)) := by rw [AHeap.get_put_ne _ _ (Ne.symm hr2), AHeap.get_put_ne _ _ h23]; exact e2
  generalize (M.put q (struck ents clock (kEnts ks) (List.range ks.length))).put r (.walk q ents clock []) = L0 at hH f1 f2 f3 f4 ⊢
  (apply s_nil; simp only [AThen, ABlock]; refine hK _ _ ?_; clear hK K; apply AWp_block)
  refine AWp_loop_s (σ := List Nat × Option Kn × AHeap) [2, 3, 4, 8] (fun s => [ptrTo p2, ptrTo p3, .v (.bool s.2.1.isNone), ptrTo r]) (fun s => s.2.2) (fun s => ks.length - s.1.length)
    (fun s => (s.1.Nodup ∧ ∀ i ∈ s.1, i < ks.length) ∧ Newest (atL s.1 ks) s.2.1 ∧ s.2.2.get q = some (struck ents clock (kEnts ks) (List.range ks.length)) ∧ s.2.2.get r = some (.walk q ents clock s.1) ∧ s.2.2.get p3 = some (.box 35 (bestCs s.2.1)) ∧ s.2.2.get p2 = some (.box 35 (bestCs none)) ∧ ∀ c o, c ≠ q → H.get c = some o → s.2.2.get c = some o)
    ([], none, L0) ⟨⟨.nil, by simp⟩, ⟨by simp [atL], by simp⟩, f1, f2, f3, f4, hH⟩ rfl rfl (fun s hs => ?_)
  clear f1 f2 f3 f4 hH e2 e3 hE hq' hr
  obtain ⟨is, o, L⟩ := s
  obtain ⟨⟨hnis, hlis⟩, hN, f1, f2, f3, f4, hH⟩ := hs
  simp only [List.zip_cons_cons, List.zip_nil_right] at hnis hlis hN f1 f2 f3 f4 hH ⊢
  refine AWp_seq_k (fun K hK => ?_); apply s_region
  have hrg : ∀ i ∈ List.range ks.length, i < (kEnts ks).length := fun i hi => by rw [hne]; exact List.mem_range.1 hi
  apply s_nextD; decide; exact (by simp only [go_sem]; try rfl); exact f2; exact f1; rw [hne]; exact hsz; exact hbn; exact hrg; (intro i hi; rw [hne]; exact hlis i hi)
  · intro hall
    (apply s_q; decide; rfl; (simp only [go_sem]; rfl); apply s_nil; simp only [AThen, ABlock]; refine hK _ _ ?_; clear hK K; refine AWp_seq_k (fun K hK => ?_))
    refine cond_split (by simp only [go_sem]; try rfl) (fun hc => ?_) (fun hc => ?_)
    · cases hc
    (apply AWp_exit; simp only [AThen, ABlock, reduceIte, Nat.reduceEqDiff])
    refine hK0 _ _ ?_
    apply AWp.unstruck f1
    have hat : atL (List.range ks.length) (kEnts ks) = kEnts ks := by rw [← hne]; exact atL_range _
    rw [hat]
    have f3' := get_other (x := .smap (kEnts ks)) f3 h33
    have f4' := get_other (x := .smap (kEnts ks)) f4 h23
    have hL : Ext H (L.put q (.smap (kEnts ks))) := fun c o hc => by
      by_cases e : c = q
      · subst e; rw [hq] at hc; cases hc; exact AHeap.get_put_same _ _ _
      · rw [AHeap.get_put_ne _ _ e]; exact hH c o e hc
    have hat2 : atL (List.range ks.length) ks = ks := atL_range _
    have hNo : o = newestL ks := newest_uniq hnd hN (fun x => by
      constructor
      · intro hx
        obtain ⟨i, _, hix⟩ := atL_sub hx
        exact List.mem_of_getElem? hix
      · intro hx
        obtain ⟨i, hix⟩ := List.mem_iff_getElem?.1 hx
        have hil := (List.getElem?_eq_some_iff.1 hix).1
        exact List.mem_filterMap.2 ⟨i, hall i (List.mem_range.2 hil), hix⟩)
    have hp2L : p2 ≠ p3 := by rintro rfl; rw [f4] at f3; exact absurd hp3 (by rw [AHeap.get_put_same]; simp)
    generalize AHeap.put q (.smap (kEnts ks)) L = L2 at f3' f4' hL ⊢
    rw [← hNo, ← best_loosen] at h
    cases o with
    | none =>
      simp only [bestCs] at f3' f4'
      (refine AWp_seq_k (fun K hK => ?_); apply s_region; apply s_q; decide; rfl; (simp only [go_sem, f3', f4']; rfl); apply s_store; (simp only [go_sem, f3', f4']; rfl); (simp only [go_sem, f3', f4']; rfl); (simp only [go_sem, f3', f4']; rfl); apply s_nil; simp only [AThen, ABlock]; refine hK _ _ ?_; clear hK K; apply AWp_ret)
      refine end_ret (av := .agg (bestCs none)) (by show resAV X.P _ _ [.cell 2 35] = _; simp only [go_sem]; try rfl) ⟨H, Ext.over hL hp2, h⟩
    | some k0 =>
      simp only [bestCs, Kn.cells] at f3' f4'
      (refine AWp_seq_k (fun K hK => ?_); apply s_region; apply s_q; decide; rfl; (simp only [go_sem, f3', f4']; rfl); apply s_store; (simp only [go_sem, f3', f4']; rfl); (simp only [go_sem, f3', f4']; rfl); (simp only [go_sem, f3', f4']; rfl); apply s_nil; simp only [AThen, ABlock]; refine hK _ _ ?_; clear hK K; apply AWp_ret)
      refine end_ret (av := .agg (bestCs (some k0))) (by show resAV X.P _ _ [.cell 2 35] = _; simp only [go_sem]; try rfl) ⟨H, Ext.over hL hp2, h⟩
  · intro i kk v hir hi hiv
    obtain ⟨k, hk⟩ := gete (l := ks) (i := i) (List.mem_range.1 hir)
    have hkv : (kk, v) = (k.name, AV.agg k.ev.cells) := by
      rw [kEnts, List.getElem?_map, hk] at hiv; simpa using hiv.symm
    cases hkv
    obtain ⟨m1, m2, m3⟩ := seen_more hnis hlis hi (List.mem_range.1 hir)
    have hrq : r ≠ q := by rintro rfl; rw [f1] at f2; cases f2
    have hr3 : p3 ≠ r := by rintro rfl; rw [f3] at f2; cases f2
    have hr2 : p2 ≠ r := by rintro rfl; rw [f4] at f2; cases f2
    have g1 := get_other (x := .walk q ents clock (is ++ [i])) f1 (Ne.symm hrq)
    have g2 := AHeap.get_put_same r (.walk q ents clock (is ++ [i])) L
    have g3 := get_other (x := .walk q ents clock (is ++ [i])) f3 hr3
    have g4 := get_other (x := .walk q ents clock (is ++ [i])) f4 hr2
    have hH2 : ∀ c o, c ≠ q → H.get c = some o → (L.put r (.walk q ents clock (is ++ [i]))).get c = some o := fun c o hc ho => by
      have hcr : c ≠ r := by rintro rfl; rw [hHr] at ho; cases ho
      rw [AHeap.get_put_ne _ _ hcr]; exact hH c o hc ho
    generalize AHeap.put r (.walk q ents clock (is ++ [i])) L = M1 at g1 g2 g3 g4 hH2 ⊢
    (apply s_q; decide; rfl; (simp only [go_sem]; rfl); apply s_nil; simp only [AThen, ABlock]; refine hK _ _ ?_; clear hK K; refine AWp_seq_k (fun K hK => ?_))
    refine cond_split (by simp only [go_sem]; try rfl) (fun hc => ?_) (fun hc => ?_)
    rotate_left
    · cases hc
    (apply AWp_skip; simp only [AThen, ABlock]; refine hK _ _ ?_; clear hK K; apply AWp_block; refine AWp_seq_k (fun K hK => ?_); apply s_region)
    apply s_entryD; decide; exact (by simp only [go_sem]; try rfl); exact g2; exact g1; rw [hne]; exact hsz; exact hrg; exact hir; exact hiv
    ((iterate 2 (apply s_q; decide; rfl; (simp only [go_sem]; rfl))); apply s_alloc; decide; exact zc_28; intro b hb; apply s_q; decide; rfl; (simp only [go_sem]; rfl); apply s_store; (simp only [go_sem]; rfl); (simp only [go_sem]; rfl); (simp only [go_sem]; rfl); apply s_nil; simp only [AThen, ABlock]; refine hK _ _ ?_; clear hK K; refine AWp_seq_k (fun K hK => ?_))
    obtain ⟨p6, hnewq⟩ : ∃ q, q = b := ⟨_, rfl⟩; have hp6 := hb; rw [← hnewq] at hp6 ⊢; clear hb hnewq; try clear he; clear b
    generalize hgenq : AHeap.put p6 _ M1 = M2; obtain ⟨g6, hextq⟩ := gen_ex hgenq hp6; have g1 := hextq _ _ g1; have g2 := hextq _ _ g2; have g3 := hextq _ _ g3; have g4 := hextq _ _ g4; have hX := hextq; clear hextq hgenq
    have hH3 : ∀ c o, c ≠ q → H.get c = some o → M2.get c = some o := fun c o hc ho => hX _ _ (hH2 c o hc ho)
    have h3n : H.get p3 = none := by
      cases hh : H.get p3 with
      | none => rfl
      | some o' => rw [hn3] at hh; cases hh
    have hat : atL (is ++ [i]) ks = atL is ks ++ [k] := by unfold atL; rw [List.filterMap_append]; simp [hk]
    have hfin : ∀ o', nstep o k = o' → ∀ M3 : AHeap, M3.get q = some (struck ents clock (kEnts ks) (List.range ks.length)) → M3.get r = some (.walk q ents clock (is ++ [i])) → M3.get p3 = some (.box 35 (bestCs o')) → M3.get p2 = some (.box 35 (bestCs none)) → (∀ c o, c ≠ q → H.get c = some o → M3.get c = some o) →
        (fun s : List Nat × Option Kn × AHeap => (s.1.Nodup ∧ ∀ i ∈ s.1, i < ks.length) ∧ Newest (atL s.1 ks) s.2.1 ∧ s.2.2.get q = some (struck ents clock (kEnts ks) (List.range ks.length)) ∧ s.2.2.get r = some (.walk q ents clock s.1) ∧ s.2.2.get p3 = some (.box 35 (bestCs s.2.1)) ∧ s.2.2.get p2 = some (.box 35 (bestCs none)) ∧ ∀ c o, c ≠ q → H.get c = some o → s.2.2.get c = some o) (is ++ [i], o', M3) := fun o' ho' M3 a1 a2 a3 a4 a5 => ⟨⟨m1, m2⟩, by simp only; rw [hat, ← ho']; exact nstep_new hN, a1, a2, a3, a4, a5⟩
    have h3p : p3 ≠ p2 := by
      rintro rfl
      have := get_fresh (AHeap.get_put_same p3 (.box 35 (bestCs none)) H) hp3 (x := .box 35 (bestCs none))
      rw [AHeap.get_put_same] at hp3; cases hp3
    have b1 := get_other (x := .box 35 (bestCs (some k))) g1 (Ne.symm h33)
    have b2 := get_other (x := .box 35 (bestCs (some k))) g2 (Ne.symm hr3)
    have b3 := AHeap.get_put_same p3 (.box 35 (bestCs (some k))) M2
    have b4 := get_other (x := .box 35 (bestCs (some k))) g4 (Ne.symm h3p)
    have b5 : ∀ c o, c ≠ q → H.get c = some o → (M2.put p3 (.box 35 (bestCs (some k)))).get c = some o := fun c o hc ho => by
      have hc3 : c ≠ p3 := by rintro rfl; rw [h3n] at ho; cases ho
      rw [AHeap.get_put_ne _ _ hc3]; exact hH3 c o hc ho
    rw [show Ev.cells k.ev = _ from rfl] at g6
    simp only [Ev.cells] at g6
    cases o with
    | none =>
      have e0 := hfin (some k) rfl _ b1 b2 b3 b4 b5
      simp only [bestCs] at g3
      apply AWp_drawA [0, 1, 2, 3, 4, 5, 6, 7, 8, 9, 10, 11, 12, 13, 14, 15] [] 0 (by exact mixed); kernel_rfl; (simp only [go_sem]; rfl); (simp only [go_sem]; rfl)
      ((iterate 2 (apply e_q; decide; (simp only [go_sem, g3, g6]; rfl))); (iterate 5 (apply e_spec; decide; (simp only [go_sem, g3, g6]; rfl); (simp only [go_sem, g3, g6]; rfl); (simp only [go_sem, g3, g6]; rfl); (simp only [go_sem, g3, g6]; rfl); trivial)); apply e_gpure; decide; (simp only [go_sem, g3, g6]; rfl); (simp only [go_sem, g3, g6]; rfl); (simp only [go_sem, g3, g6]; rfl); trivial; (simp only [go_sem, g3, g6]; rfl); (simp only [go_sem, g3, g6]; rfl); (apply comparel_c; exact ⟨rfl, rfl⟩); (iterate 3 (apply e_spec; decide; (simp only [go_sem, g3, g6]; rfl); (simp only [go_sem, g3, g6]; rfl); (simp only [go_sem, g3, g6]; rfl); (simp only [go_sem, g3, g6]; rfl); trivial)); apply e_gpure; decide; (simp only [go_sem, g3, g6]; rfl); (simp only [go_sem, g3, g6]; rfl); (simp only [go_sem, g3, g6]; rfl); trivial; (simp only [go_sem, g3, g6]; rfl); (simp only [go_sem, g3, g6]; rfl); (apply compares_c; exact ⟨rfl, rfl⟩); apply e_glit; decide; (simp only [go_sem, g3, g6]; rfl); (simp only [go_sem, g3, g6]; rfl); (simp only [go_sem, g3, g6]; rfl); trivial; exact el_95; (simp only [go_sem, g3, g6]; rfl); (simp only [go_sem, g3, g6]; rfl); decide; apply e_gpure; decide; (simp only [go_sem, g3, g6]; rfl); (simp only [go_sem, g3, g6]; rfl); (simp only [go_sem, g3, g6]; rfl); trivial; (simp only [go_sem, g3, g6]; rfl); (simp only [go_sem, g3, g6]; rfl); (apply or2_c; exact ⟨rfl, rfl⟩); apply e_spec; decide; (simp only [go_sem, g3, g6]; rfl); (simp only [go_sem, g3, g6]; rfl); (simp only [go_sem, g3, g6]; rfl); (simp only [go_sem, g3, g6]; rfl); trivial; apply e_pick; decide; (simp only [go_sem, g3, g6]; rfl); (simp only [go_sem, g3, g6]; rfl); (simp only [go_sem, g3, g6]; rfl); (simp only [go_sem, g3, g6]; rfl); (simp only [go_sem, g3, g6]; rfl); (simp only [go_sem, g3, g6]; rfl); trivial; trivial; trivial; apply e_nil; apply t_nil; simp only [AThen, ABlock]; refine hK _ _ ?_; clear hK K)
      refine cond_split (by simp only [go_sem]; try rfl) (fun hc => ?_) (fun hc => ?_)
      · (apply s_region; (iterate 3 (apply s_q; decide; rfl; (simp only [go_sem, g3, g6]; rfl))); apply s_store; (simp only [go_sem, g3, g6]; rfl); (simp only [go_sem, g3, g6]; rfl); (simp only [go_sem, g3, g6]; rfl); apply s_q; decide; rfl; (simp only [go_sem, g3, g6]; rfl); apply s_nil; simp only [AThen, ABlock])
        exact ⟨_, m3, e0, rfl, rfl⟩
      · cases hc
    | some b0 =>
      have hlc := later_cmp k b0
      simp only [bestCs, Kn.cells] at g3
      apply AWp_drawA [0, 1, 2, 3, 4, 5, 6, 7, 8, 9, 10, 11, 12, 13, 14, 15] [] 0 (by exact mixed); kernel_rfl; (simp only [go_sem]; rfl); (simp only [go_sem]; rfl)
      ((iterate 2 (apply e_q; decide; (simp only [go_sem, g3, g6]; rfl))); apply e_spec; decide; (simp only [go_sem, g3, g6]; rfl); (simp only [go_sem, g3, g6]; rfl); (simp only [go_sem, g3, g6]; rfl); (simp only [go_sem, g3, g6]; rfl); trivial; apply e_spec; decide; (simp only [go_sem, g3, g6]; rfl); (simp only [go_sem, g3, g6]; rfl); (simp only [go_sem, g3, g6]; rfl); (simp only [go_sem, g3, g6]; rfl); simp [condsOk]; apply e_spec; decide; (simp only [go_sem, g3, g6]; rfl); (simp only [go_sem, g3, g6]; rfl); (simp only [go_sem, g3, g6]; rfl); (simp only [go_sem, g3, g6]; rfl); trivial; (iterate 2 (apply e_spec; decide; (simp only [go_sem, g3, g6]; rfl); (simp only [go_sem, g3, g6]; rfl); (simp only [go_sem, g3, g6]; rfl); (simp only [go_sem, g3, g6]; rfl); simp [condsOk])); apply e_gpure; decide; (simp only [go_sem, g3, g6]; rfl); (simp only [go_sem, g3, g6]; rfl); (simp only [go_sem, g3, g6]; rfl); simp [condsOk]; (simp only [go_sem, g3, g6]; rfl); (simp only [go_sem, g3, g6]; rfl); (apply comparel_c; exact ⟨rfl, rfl⟩); (iterate 2 (apply e_spec; decide; (simp only [go_sem, g3, g6]; rfl); (simp only [go_sem, g3, g6]; rfl); (simp only [go_sem, g3, g6]; rfl); (simp only [go_sem, g3, g6]; rfl); trivial)); apply e_spec; decide; (simp only [go_sem, g3, g6]; rfl); (simp only [go_sem, g3, g6]; rfl); (simp only [go_sem, g3, g6]; rfl); (simp only [go_sem, g3, g6]; rfl); simp [condsOk]; apply e_gpure; decide; (simp only [go_sem, g3, g6]; rfl); (simp only [go_sem, g3, g6]; rfl); (simp only [go_sem, g3, g6]; rfl); simp [condsOk]; (simp only [go_sem, g3, g6]; rfl); (simp only [go_sem, g3, g6]; rfl); (apply compares_c; exact ⟨rfl, rfl⟩); apply e_glit; decide; (simp only [go_sem, g3, g6]; rfl); (simp only [go_sem, g3, g6]; rfl); (simp only [go_sem, g3, g6]; rfl); simp [condsOk]; exact el_95; (simp only [go_sem, g3, g6]; rfl); (simp only [go_sem, g3, g6]; rfl); decide; apply e_gpure; decide; (simp only [go_sem, g3, g6]; rfl); (simp only [go_sem, g3, g6]; rfl); (simp only [go_sem, g3, g6]; rfl); simp [condsOk]; (simp only [go_sem, g3, g6]; rfl); (simp only [go_sem, g3, g6]; rfl); (apply or2_c; exact ⟨rfl, rfl⟩); apply e_spec; decide; (simp only [go_sem, g3, g6]; rfl); (simp only [go_sem, g3, g6]; rfl); (simp only [go_sem, g3, g6]; rfl); (simp only [go_sem, g3, g6]; rfl); simp [condsOk]; apply e_pick; decide; (simp only [go_sem, g3, g6]; rfl); (simp only [go_sem, g3, g6]; rfl); (simp only [go_sem, g3, g6]; rfl); (simp only [go_sem, g3, g6]; rfl); (simp only [go_sem, g3, g6]; rfl); (simp only [go_sem, g3, g6]; rfl); trivial; trivial; simp [condsOk]; apply e_nil; apply t_nil; simp only [AThen, ABlock]; refine hK _ _ ?_; clear hK K)
      refine cond_split (by simp only [go_sem]; try rfl) (fun hc => ?_) (fun hc => ?_)
      · have hlt : later k b0 = true := by rw [← hlc]; simpa using hc
        have e0 := hfin (some k) (by simp [nstep, hlt]) _ b1 b2 b3 b4 b5
        (apply s_region; (iterate 3 (apply s_q; decide; rfl; (simp only [go_sem, g3, g6]; rfl))); apply s_store; (simp only [go_sem, g3, g6]; rfl); (simp only [go_sem, g3, g6]; rfl); (simp only [go_sem, g3, g6]; rfl); apply s_q; decide; rfl; (simp only [go_sem, g3, g6]; rfl); apply s_nil; simp only [AThen, ABlock])
        exact ⟨_, m3, e0, rfl, rfl⟩
      · have hlt : later k b0 = false := by rw [← hlc]; simpa using hc
        have e0 := hfin (some b0) (by simp [nstep, hlt]) M2 g1 g2 g3 g4 hH3
        (apply AWp_skip; simp only [AThen, ABlock])
        exact ⟨_, m3, e0, rfl, rfl⟩
end Go.Proofs.Ytmloandpjbimkaa
