/-
  The document's Thread and Body. Contracts.
-/
import Derived.Test.YtmloandpjbimkaaW25J
import Derived.Test.YtmloandpjbimkaaW25F
set_option linter.unusedSimpArgs false
set_option linter.unusedVariables false
set_option maxRecDepth 100000
namespace Go.Proofs.Ytmloandpjbimkaa
open Go Go.AL
attribute [local irreducible] AOps AWp SOps AE AT ACall AApp

/-- the best place so far, of those of which p holds -/
def BestAt (F : List Kn) (p : Kn → Bool) (i : Nat) (b : Option Nat) : Prop := (∀ j, b = some j → j < i) ∧ Newest ((F.take i).filter p) (b.bind (F[·]?))
def bestV : Option Nat → Int
  | none => -1
  | some j => j
theorem best_zero (F : List Kn) (p : Kn → Bool) : BestAt F p 0 none := ⟨by simp, by simp [Newest]⟩
theorem best_skip {F : List Kn} {p : Kn → Bool} {i : Nat} {b : Option Nat} {k : Kn} (h : BestAt F p i b) (hk : F[i]? = some k) (hp : p k = false) : BestAt F p (i + 1) b := by
  refine ⟨fun j hj => by have := h.1 j hj; omega, ?_⟩
  rw [take_succ hk, List.filter_append, List.filter_cons, hp]
  simpa using h.2
theorem best_step {F : List Kn} {p : Kn → Bool} {i : Nat} {b : Option Nat} {k : Kn} (h : BestAt F p i b) (hk : F[i]? = some k) (hp : p k = true) :
    BestAt F p (i + 1) (match b.bind (F[·]?) with | none => some i | some x => if later k x then some i else b) := by
  have hn := nstep_new (k := k) h.2
  have e1 : (F.take (i + 1)).filter p = (F.take i).filter p ++ [k] := by rw [take_succ hk, List.filter_append, List.filter_cons, hp]; rfl
  cases hb : b.bind (F[·]?) with
  | none =>
    refine ⟨fun j hj => by simp at hj; omega, ?_⟩
    rw [e1]; rw [hb] at hn
    simpa [hk, nstep] using hn
  | some x =>
    simp only
    by_cases hl : later k x = true
    · rw [if_pos hl]
      refine ⟨fun j hj => by simp at hj; omega, ?_⟩
      rw [e1]; rw [hb] at hn
      simpa [hk, nstep, hl] using hn
    · rw [if_neg hl]
      refine ⟨fun j hj => by have := h.1 j hj; omega, ?_⟩
      rw [e1, hb]; rw [hb] at hn
      simpa [nstep, hl] using hn
theorem best_end {F : List Kn} {p : Kn → Bool} {b : Option Nat} (hn : (F.map (·.name)).Nodup) (h : BestAt F p F.length b) : b.bind (F[·]?) = newestL (F.filter p) := by
  have h2 := h.2
  rw [List.take_length] at h2
  exact newest_uniq (List.Nodup.sublist (List.filter_sublist.map _) hn) h2 (fun _ => Iff.rfl)
theorem filter_take {F : List Kn} {p : Kn → Bool} {i : Nat} {k : Kn} (hk : F[i]? = some k) : ((F.take (i + 1)).filter p).length = ((F.take i).filter p).length + (if p k then 1 else 0) := by
  rw [take_succ hk, List.filter_append, List.filter_cons, List.length_append]
  split <;> rfl
theorem wrapN2 {i n : Nat} (h : n ≤ i) (hn : i ≤ 1000000) : IntKind.i64.wrap ((n : Int) + 1) = ((n + 1 : Nat) : Int) := by rw [wrap64 (by omega)]; omega
set_option maxHeartbeats 4000000 in
theorem rthread_c (t : Bool) (l : List Kn) (name : List UInt8) (hl : l.length ≤ 1000000) (hok : ∀ k ∈ l, k.Ok) (H : AHeap) (K : AV → AHeap → Prop) (h : K (.agg [.v (.int .i64 (threadL l name).1), .s (threadL l name).2]) H) : ACall X 21 [.sl t (l.map Kn.cells), .s name] H K := by
  refine ACall.drop ?_
  refine ACall_intro Try.func21 rfl (by kernel_rfl) (by rw [Try.ntmps21]; simp) ?_; rw [Try.ntmps21]; simp only [frame0, Nat.reduceAdd]
  (refine AWp_seq_k (fun K hK => ?_); apply s_region; apply s_alloc; decide; exact zc_45; intro b hb; apply s_nil; simp only [AThen, ABlock]; refine hK _ _ ?_; clear hK K; refine AWp_seq_k (fun K hK => ?_); apply s_region; apply s_q; decide; rfl; (simp only [go_sem]; rfl); apply s_call; decide; (simp only [go_sem]; rfl); (simp only [go_sem]; rfl); apply first_c t l hl; apply s_q; decide; rfl; (simp only [go_sem]; rfl); apply s_nil; simp only [AThen, ABlock]; refine hK _ _ ?_; clear hK K; refine AWp_seq_k (fun K hK => ?_); apply s_region; apply s_alloc; decide; exact zc_45; intro b hb; apply s_nil; simp only [AThen, ABlock]; refine hK _ _ ?_; clear hK K; refine AWp_seq_k (fun K hK => ?_); apply s_region; apply s_q; decide; rfl; (simp only [go_sem]; rfl); apply s_nil; simp only [AThen, ABlock]; refine hK _ _ ?_; clear hK K; (iterate 2 (refine AWp_seq_k (fun K hK => ?_))); apply s_region; apply s_q; decide; rfl; (simp only [go_sem]; rfl); apply s_nil; simp only [AThen, ABlock]; refine hK _ _ ?_; clear hK K; apply AWp_block)
  obtain ⟨F, hF⟩ : ∃ F, firstL l = F := ⟨_, rfl⟩
  have hFn := firstL_nodup l
  have hFl := firstL_len l
  have hFs : ∀ k ∈ firstL l, k ∈ l := fun k hk => firstL_sub l hk
  rw [threadL, aboutL] at h
  rw [hF] at hFn hFl hFs h ⊢
  rename_i p4 hp4
  obtain ⟨p5, hnewq⟩ : ∃ q, q = b := ⟨_, rfl⟩; have hp5 := hb; rw [← hnewq] at hp5 ⊢; clear hb hnewq; try clear he; clear b
  have g5 := AHeap.get_put_same p5 (.box 45 [.v (.int .i64 0), .s []]) (H.put p4 (.box 45 [.v (.int .i64 0), .s []]))
  have g4 := get_fresh (AHeap.get_put_same p4 (.box 45 [.v (.int .i64 0), .s []]) H) hp5 (x := .box 45 [.v (.int .i64 0), .s []])
  have hE := (Ext.fresh hp4 (o := .box 45 [.v (.int .i64 0), .s []])).put hp5 (ob := .box 45 [.v (.int .i64 0), .s []])
  have hHp5 := none_fresh hp5
  have h45 : p4 ≠ p5 := by rintro rfl; rw [AHeap.get_put_same] at hp5; cases hp5
  generalize (H.put p4 (.box 45 [.v (.int .i64 0), .s []])).put p5 (.box 45 [.v (.int .i64 0), .s []]) = M at g5 g4 hE ⊢
  obtain ⟨pr, hpr⟩ : ∃ pr, isAbout kThread name = pr := ⟨_, rfl⟩
  rw [hpr] at h
  refine AWp_loop_s (σ := Nat × Option Nat) [0, 1, 4, 5, 6, 7] (fun s => [.sl false (F.map Kn.cells), .s name, ptrTo p4, ptrTo p5, .v (.int .i64 (bestV s.2)), .v (.int .i64 s.1)]) (fun s => M.put p5 (.box 45 [.v (.int .i64 (((F.take s.1).filter pr).length : Int)), .s []])) (fun s => F.length - s.1)
    (fun s => s.1 ≤ F.length ∧ BestAt F pr s.1 s.2) (0, none) ⟨Nat.zero_le _, best_zero F pr⟩ rfl (put_same g5).symm (fun s hs => ?_)
  obtain ⟨i, b⟩ := s
  obtain ⟨hi, hB⟩ := hs
  simp only [List.zip_cons_cons, List.zip_nil_right] at hi hB ⊢
  have f5 := AHeap.get_put_same p5 (.box 45 [.v (.int .i64 (((F.take i).filter pr).length : Int)), .s []]) M
  ((iterate 2 (refine AWp_seq_k (fun K hK => ?_))); apply s_region; (iterate 4 (apply s_q; decide; rfl; (simp only [go_sem]; rfl))); apply s_nil; simp only [AThen, ABlock]; refine hK _ _ ?_; clear hK K)
  refine cond_split (by simp only [go_sem]; try rfl) (fun hc => ?_) (fun hc => ?_)
  · have hlt : i < F.length := by simpa using hc
    obtain ⟨k, hk⟩ := gete hlt
    have hgk := kn_at hk
    have hkl : k.ev.content.Len := hok k (hFs k (List.mem_of_getElem? hk))
    obtain ⟨r1, r2, r3, hr⟩ : ∃ r1 r2 r3, relOf k.ev = (r1, r2, r3) := ⟨_, _, _, rfl⟩
    have hOf : ∀ (H : AHeap) (K : AV → AHeap → Prop), K (.tup [.s r1, .s r2, .s r3]) H → ACall X 11 [.agg k.ev.cells] H K := fun H K hk => rof_c25 k.ev hkl H K (by rw [hr]; exact hk)
    have hia : pr k = (decide (r1 = kThread) && decide (r2 = name)) := by rw [← hpr, isAbout, hr]
    have hft := filter_take (p := pr) hk
    have hfl : ((F.take i).filter pr).length ≤ i := by
      have := List.length_filter_le pr (F.take i)
      rw [List.length_take] at this; omega
    have hla : ∀ x, later k x = later k x := fun _ => rfl
    (apply AWp_skip; simp only [AThen, ABlock]; refine hK _ _ ?_; clear hK K; refine AWp_seq_k (fun K hK => ?_); apply AWp_block; refine AWp_seq_k (fun K hK => ?_); apply s_region; (iterate 5 (apply s_q; decide; rfl; (simp only [go_sem, hgk]; rfl))); apply s_call; decide; (simp only [go_sem, hgk]; rfl); (simp only [go_sem, hgk]; rfl); apply hOf; (iterate 7 (apply s_q; decide; rfl; (simp only [go_sem, hgk]; rfl))); apply s_nil; simp only [AThen, ABlock]; refine hK _ _ ?_; clear hK K; refine AWp_seq_k (fun K hK => ?_); apply s_region; (iterate 3 (apply s_q; decide; rfl; (simp only [go_sem, hgk]; rfl))); (iterate 2 (apply s_spec; decide; rfl; rfl; (simp only [go_sem, hgk]; rfl); (simp only [go_sem, hgk]; rfl); (simp only [go_sem, hgk]; rfl); (simp only [go_sem, hgk]; rfl); trivial)); apply s_spec; decide; rfl; rfl; (simp only [go_sem, hgk]; rfl); (simp only [go_sem, hgk]; rfl); (simp only [go_sem, hgk]; rfl); (simp only [go_sem, hgk]; rfl); simp [condsOk]; apply s_pick; decide; (simp only [go_sem, hgk]; rfl); (simp only [go_sem, hgk]; rfl); (simp only [go_sem, hgk]; rfl); (simp only [go_sem, hgk]; rfl); (simp only [go_sem, hgk]; rfl); (simp only [go_sem, hgk]; rfl); trivial; simp [condsOk]; trivial; apply s_nil; simp only [AThen, ABlock]; refine hK _ _ ?_; clear hK K)
    refine cond_split (by simp only [go_sem]; try rfl) (fun hd => ?_) (fun hd => ?_)
    · have hd' : (if decide (r1 = kThread) = true then decide (r2 = name) else false) = true := hd
      have hpk : pr k = true := by rw [hia]; simpa using hd'
      rw [hpk, if_pos rfl] at hft
      have hbs := best_step hB hk hpk
      (refine AWp_seq_k (fun K hK => ?_); apply s_region; (iterate 4 (apply s_q; decide; rfl; (simp only [go_sem, f5]; rfl))); apply s_store; (simp only [go_sem, f5]; rfl); (simp only [go_sem, f5]; rfl); (simp only [go_sem, f5]; rfl); apply s_nil; simp only [AThen, ABlock]; refine hK _ _ ?_; clear hK K; refine AWp_seq_k (fun K hK => ?_))
      rw [wrapN2 hfl (by omega)]
      have hfin : ∀ b' : Option Nat, BestAt F pr (i + 1) b' → ∃ s' : Nat × Option Nat, F.length - s'.1 < F.length - i ∧ (s'.1 ≤ F.length ∧ BestAt F pr s'.1 s'.2) ∧ [AV.sl false (F.map Kn.cells), .s name, ptrTo p4, ptrTo p5, .v (.int .i64 (bestV b')), .v (.int .i64 (IntKind.i64.wrap ((i : Int) + 1)))] = [.sl false (F.map Kn.cells), .s name, ptrTo p4, ptrTo p5, .v (.int .i64 (bestV s'.2)), .v (.int .i64 s'.1)] ∧
          M.put p5 (.box 45 [.v (.int .i64 ((((F.take i).filter pr).length + 1 : Nat) : Int)), .s []]) = M.put p5 (.box 45 [.v (.int .i64 (((F.take s'.1).filter pr).length : Int)), .s []]) := fun b' hb' =>
        ⟨(i + 1, b'), by simp only; omega, ⟨by simp only; omega, hb'⟩, by simp only; rw [wrapS hlt (by omega)], by simp only; rw [hft]⟩
      cases b with
      | none =>
        have hng : decide ((-1 : Int) < 0) = true := rfl
        simp only [bestV]
        apply AWp_drawA [0, 1, 2, 3, 4, 5, 6, 7, 8, 9, 10, 11, 12] [] 0 (by exact mixed); kernel_rfl; (simp only [go_sem]; rfl); (simp only [go_sem]; rfl)
        ((iterate 3 (apply e_q; decide; (simp only [go_sem, hng]; rfl))); (iterate 2 (apply e_spec; decide; (simp only [go_sem, hng]; rfl); (simp only [go_sem, hng]; rfl); (simp only [go_sem, hng]; rfl); (simp only [go_sem, hng]; rfl); trivial)); (iterate 2 (apply e_when (av := (.v (.bool false))); decide; (simp only [go_sem, hng]; rfl); (simp only [go_sem, hng]; rfl); (simp only [go_sem, hng]; rfl); trivial; (focus (intro hg; first | (cases hg; done) | (simp at hg; done))))); (iterate 2 (apply e_spec; decide; (simp only [go_sem, hng]; rfl); (simp only [go_sem, hng]; rfl); (simp only [go_sem, hng]; rfl); (simp only [go_sem, hng]; rfl); trivial)); (iterate 3 (apply e_when (av := (.v (.bool false))); decide; (simp only [go_sem, hng]; rfl); (simp only [go_sem, hng]; rfl); (simp only [go_sem, hng]; rfl); trivial; (focus (intro hg; first | (cases hg; done) | (simp at hg; done))))); apply e_pick; decide; (simp only [go_sem, hng]; rfl); (simp only [go_sem, hng]; rfl); (simp only [go_sem, hng]; rfl); (simp only [go_sem, hng]; rfl); (simp only [go_sem, hng]; rfl); (simp only [go_sem, hng]; rfl); trivial; trivial; trivial; apply e_nil; apply t_nil; simp only [AThen, ABlock]; refine hK _ _ ?_; clear hK K)
        refine cond_split (by simp only [go_sem]; try rfl) (fun he => ?_) (fun he => ?_)
        · (apply s_region; (iterate 2 (apply s_q; decide; rfl; (simp only [go_sem]; rfl))); apply s_nil; simp only [AThen, ABlock]; refine hK _ _ ?_; clear hK K; apply s_region; (iterate 3 (apply s_q; decide; rfl; (simp only [go_sem]; rfl))); apply s_nil; simp only [AThen, ABlock])
          exact hfin (some i) hbs
        · cases he
      | some j =>
        have hji := hB.1 j rfl
        obtain ⟨x, hx⟩ := gete (l := F) (i := j) (by omega)
        have hgx := kn_at hx
        have hnj : decide ((j : Int) < 0) = false := decide_eq_false (by omega)
        have hjx : (some j).bind (F[·]?) = some x := hx
        rw [hjx] at hbs
        simp only at hbs
        simp only [bestV]
        apply AWp_drawA [0, 1, 2, 3, 4, 5, 6, 7, 8, 9, 10, 11, 12] [] 0 (by exact mixed); kernel_rfl; (simp only [go_sem]; rfl); (simp only [go_sem]; rfl)
        ((iterate 3 (apply e_q; decide; (simp only [go_sem, hnj, hgk, hgx]; rfl))); (iterate 8 (apply e_spec; decide; (simp only [go_sem, hnj, hgk, hgx]; rfl); (simp only [go_sem, hnj, hgk, hgx]; rfl); (simp only [go_sem, hnj, hgk, hgx]; rfl); (simp only [go_sem, hnj, hgk, hgx]; rfl); trivial)); apply e_gpure; decide; (simp only [go_sem, hnj, hgk, hgx]; rfl); (simp only [go_sem, hnj, hgk, hgx]; rfl); (simp only [go_sem, hnj, hgk, hgx]; rfl); trivial; (simp only [go_sem, hnj, hgk, hgx]; rfl); (simp only [go_sem, hnj, hgk, hgx]; rfl); (apply later_c k x; exact ⟨rfl, rfl⟩); apply e_pick; decide; (simp only [go_sem, hnj, hgk, hgx]; rfl); (simp only [go_sem, hnj, hgk, hgx]; rfl); (simp only [go_sem, hnj, hgk, hgx]; rfl); (simp only [go_sem, hnj, hgk, hgx]; rfl); (simp only [go_sem, hnj, hgk, hgx]; rfl); (simp only [go_sem, hnj, hgk, hgx]; rfl); trivial; trivial; trivial; apply e_nil; apply t_nil; simp only [AThen, ABlock]; refine hK _ _ ?_; clear hK K)
        refine cond_split (by simp only [go_sem]; try rfl) (fun he => ?_) (fun he => ?_)
        · have hlt2 : later k x = true := by simpa using he
          rw [if_pos hlt2] at hbs
          (apply s_region; (iterate 2 (apply s_q; decide; rfl; (simp only [go_sem]; rfl))); apply s_nil; simp only [AThen, ABlock]; refine hK _ _ ?_; clear hK K; apply s_region; (iterate 3 (apply s_q; decide; rfl; (simp only [go_sem]; rfl))); apply s_nil; simp only [AThen, ABlock])
          exact hfin (some i) hbs
        · have hlt2 : later k x = false := by simpa using he
          rw [if_neg (by simp [hlt2])] at hbs
          (apply AWp_skip; simp only [AThen, ABlock]; refine hK _ _ ?_; clear hK K; apply s_region; (iterate 3 (apply s_q; decide; rfl; (simp only [go_sem]; rfl))); apply s_nil; simp only [AThen, ABlock])
          exact hfin (some j) hbs
    · have hd' : (if decide (r1 = kThread) = true then decide (r2 = name) else false) = false := hd
      have hpk : pr k = false := by
        rw [hia]
        cases h1 : (decide (r1 = kThread)) <;> cases h2 : (decide (r2 = name)) <;> simp_all
      rw [hpk, if_neg (by simp)] at hft
      (apply AWp_skip; simp only [AThen, ABlock]; refine hK _ _ ?_; clear hK K; apply s_region; (iterate 3 (apply s_q; decide; rfl; (simp only [go_sem]; rfl))); apply s_nil; simp only [AThen, ABlock])
      refine ⟨(i + 1, b), by simp only; omega, ⟨by simp only; omega, best_skip hB hk hpk⟩, ?_, ?_⟩
      · simp only [getAll, List.map_cons, List.map_nil, AFr.get, reduceIte, Nat.reduceEqDiff]
        rw [wrapS hlt (by omega)]; try rfl
      · simp only; rw [hft]; rfl
  · have hge : F.length ≤ i := by simpa using hc
    have hiF : i = F.length := by omega
    subst hiF
    have hbe := best_end hFn hB
    rw [List.take_length] at f5 ⊢
    have f4 := get_other (x := .box 45 [.v (.int .i64 ((F.filter pr).length : Int)), .s []]) g4 h45
    have hE5 := Ext.over (o := .box 45 [.v (.int .i64 ((F.filter pr).length : Int)), .s []]) hE hHp5
    rw [← hbe] at h
    generalize M.put p5 (.box 45 [.v (.int .i64 ((F.filter pr).length : Int)), .s []]) = M3 at f5 f4 hE5 ⊢
    cases b with
    | none =>
      have hng : decide ((0 : Int) ≤ -1) = false := rfl
      simp only [bestV]
      (apply AWp_exit; simp only [AThen, ABlock, reduceIte, Nat.reduceEqDiff]; clear hK K; refine hK _ _ ?_; clear hK K; (iterate 2 (refine AWp_seq_k (fun K hK => ?_))); apply s_region; (iterate 2 (apply s_q; decide; rfl; (simp only [go_sem]; rfl))); apply s_nil; simp only [AThen, ABlock]; refine hK _ _ ?_; clear hK K)
      refine cond_split (by simp only [go_sem]; try rfl) (fun he => ?_) (fun he => ?_)
      · cases he
      (apply AWp_skip; simp only [AThen, ABlock]; refine hK _ _ ?_; clear hK K; refine AWp_seq_k (fun K hK => ?_); apply s_region; apply s_q; decide; rfl; (simp only [go_sem, f5, f4]; rfl); apply s_store; (simp only [go_sem, f5, f4]; rfl); (simp only [go_sem, f5, f4]; rfl); (simp only [go_sem, f5, f4]; rfl); apply s_nil; simp only [AThen, ABlock]; refine hK _ _ ?_; clear hK K; apply AWp_ret)
      refine end_ret (av := .agg [.v (.int .i64 ((F.filter pr).length : Int)), .s []]) (by show resAV X.P _ _ [.cell 4 45] = _; simp only [go_sem]; try rfl) ⟨H, Ext.over hE5 hp4, h⟩
    | some j =>
      have hji := hB.1 j rfl
      obtain ⟨x, hx⟩ := gete (l := F) (i := j) (by omega)
      have hgx := kn_at hx
      have hjx : (some j).bind (F[·]?) = some x := hx
      rw [hjx] at h
      simp only [bestV]
      (apply AWp_exit; simp only [AThen, ABlock, reduceIte, Nat.reduceEqDiff]; clear hK K; refine hK _ _ ?_; clear hK K; (iterate 2 (refine AWp_seq_k (fun K hK => ?_))); apply s_region; (iterate 2 (apply s_q; decide; rfl; (simp only [go_sem]; rfl))); apply s_nil; simp only [AThen, ABlock]; refine hK _ _ ?_; clear hK K)
      refine cond_split (by simp only [go_sem]; try rfl) (fun he => ?_) (fun he => ?_)
      rotate_left
      · simp at he
      have f4' := get_other (x := .box 45 [.v (.int .i64 ((F.filter pr).length : Int)), .s x.name]) f4 h45
      have f5' := AHeap.get_put_same p5 (.box 45 [.v (.int .i64 ((F.filter pr).length : Int)), .s x.name]) M3
      (apply s_region; (iterate 6 (apply s_q; decide; rfl; (simp only [go_sem, hgx, f5, f4', f5']; rfl))); apply s_store; (simp only [go_sem, hgx, f5, f4', f5']; rfl); (simp only [go_sem, hgx, f5, f4', f5']; rfl); (simp only [go_sem, hgx, f5, f4', f5']; rfl); apply s_nil; simp only [AThen, ABlock]; refine hK _ _ ?_; clear hK K; refine AWp_seq_k (fun K hK => ?_); apply s_region; apply s_q; decide; rfl; (simp only [go_sem, hgx, f5, f4', f5']; rfl); apply s_store; (simp only [go_sem, hgx, f5, f4', f5']; rfl); (simp only [go_sem, hgx, f5, f4', f5']; rfl); (simp only [go_sem, hgx, f5, f4', f5']; rfl); apply s_nil; simp only [AThen, ABlock]; refine hK _ _ ?_; clear hK K; apply AWp_ret)
      refine end_ret (av := .agg [.v (.int .i64 ((F.filter pr).length : Int)), .s x.name]) (by show resAV X.P _ _ [.cell 4 45] = _; simp only [go_sem]; try rfl) ⟨H, Ext.over (Ext.over hE5 hHp5) hp4, h⟩
theorem firstL_find (l : List Kn) (name : List UInt8) : (firstL l).find? (fun k => decide (k.name = name)) = l.find? (fun k => decide (k.name = name)) := by
  have : ∀ (l out : List Kn), (l.foldl fstep out).find? (fun k => decide (k.name = name)) = (out.find? (fun k => decide (k.name = name))).or (l.find? (fun k => decide (k.name = name))) := fun l => by
    induction l with
    | nil => intro out; simp
    | cons a l ih =>
      intro out
      rw [List.foldl_cons, ih, List.find?_cons]
      unfold fstep
      split
      · rename_i h
        by_cases ha : a.name = name
        · obtain ⟨x, hx, hxa⟩ := List.any_eq_true.1 h
          have : ∃ y, out.find? (fun k => decide (k.name = name)) = some y := by
            cases hf : out.find? (fun k => decide (k.name = name)) with
            | some y => exact ⟨y, rfl⟩
            | none =>
              rw [List.find?_eq_none] at hf
              exact absurd (by simp only [decide_eq_true_eq] at hxa ⊢; rw [hxa, ha]) (hf x hx)
          obtain ⟨y, hy⟩ := this
          rw [hy]; simp
        · simp [ha]
      · rw [List.find?_append, List.find?_cons, List.find?_nil]
        by_cases ha : a.name = name
        · simp only [ha, decide_true]; rw [Option.or_assoc]; simp
        · simp [ha]
  have := this l []
  simpa [firstL] using this
/-- the edits, as the document tells them -/
def editB (name : List UInt8) (own : List UInt8) (e : Ev) (x : Kn) : Bool := isAbout kEdit name x && (!decide (own = kEdit) && (decide (x.ev.sender = e.sender) && decide (x.ev.type = e.type)))
theorem edits_doc (l : List Kn) (name : List UInt8) (e : Ev) : (firstL l).filter (editB name (relOf e).1 e) = editsL l name e := by
  unfold editsL
  by_cases h : (relOf e).1 = kEdit
  · rw [if_pos h, List.filter_nil, List.filter_eq_nil_iff]
    intro x hx; simp [editB, h]
  · rw [if_neg h, aboutL, List.filter_filter]
    refine List.filter_congr fun x hx => ?_
    unfold editB otherB
    rw [decide_eq_false h]
    cases isAbout kEdit name x <;> cases decide (x.ev.sender = e.sender) <;> cases decide (x.ev.type = e.type) <;> rfl
set_option maxHeartbeats 8000000 in
theorem rbody_c (t : Bool) (l : List Kn) (name : List UInt8) (hl : l.length ≤ 1000000) (hok : ∀ k ∈ l, k.Ok) (H : AHeap) (K : AV → AHeap → Prop) (h : K (.tup [.s (bodyL l name).1, .v (.int .i64 (bodyL l name).2)]) H) : ACall X 17 [.sl t (l.map Kn.cells), .s name] H K := by
  refine ACall.drop ?_
  refine ACall_intro Try.func17 rfl (by kernel_rfl) (by rw [Try.ntmps17]; simp) ?_; rw [Try.ntmps17]; simp only [frame0, Nat.reduceAdd]
  (refine AWp_seq_k (fun K hK => ?_); apply s_region; (iterate 2 (apply s_q; decide; rfl; (simp only [go_sem]; rfl))); apply s_nil; simp only [AThen, ABlock]; refine hK _ _ ?_; clear hK K; refine AWp_seq_k (fun K hK => ?_); apply s_region; apply s_q; decide; rfl; (simp only [go_sem]; rfl); apply s_call; decide; (simp only [go_sem]; rfl); (simp only [go_sem]; rfl); apply first_c t l hl; apply s_q; decide; rfl; (simp only [go_sem]; rfl); apply s_nil; simp only [AThen, ABlock]; refine hK _ _ ?_; clear hK K; (iterate 2 (refine AWp_seq_k (fun K hK => ?_))); apply s_region; apply s_q; decide; rfl; (simp only [go_sem]; rfl); apply s_nil; simp only [AThen, ABlock]; refine hK _ _ ?_; clear hK K; apply AWp_block)
  have hfd0 := firstL_find l name
  obtain ⟨F, hF⟩ : ∃ F, firstL l = F := ⟨_, rfl⟩
  have hFn := firstL_nodup l
  have hFl := firstL_len l
  have hFs : ∀ k ∈ firstL l, k ∈ l := fun k hk => firstL_sub l hk
  have hed0 := fun e => edits_doc l name e
  rw [hF] at hFn hFl hFs hfd0 ⊢
  simp only [hF] at hed0
  refine AWp_loop_s (σ := Nat) [0, 1, 6] (fun i => [.sl false (F.map Kn.cells), .s name, .v (.int .i64 i)]) (fun _ => H) (fun i => F.length - i)
    (fun i => i ≤ F.length ∧ ∀ x ∈ F.take i, decide (x.name = name) = false) 0 ⟨Nat.zero_le _, by simp⟩ rfl rfl (fun i hi => ?_)
  simp only [List.zip_cons_cons, List.zip_nil_right]
  ((iterate 2 (refine AWp_seq_k (fun K hK => ?_))); apply s_region; (iterate 4 (apply s_q; decide; rfl; (simp only [go_sem]; rfl))); apply s_nil; simp only [AThen, ABlock]; refine hK _ _ ?_; clear hK K)
  refine cond_split (by simp only [go_sem]; try rfl) (fun hc => ?_) (fun hc => ?_)
  rotate_left
  · have hge : F.length ≤ i := by simpa using hc
    have hno := hi.2
    rw [List.take_of_length_le hge] at hno
    have hfd : l.find? (fun k => decide (k.name = name)) = none := by
      rw [← hfd0, List.find?_eq_none]; intro x hx; simp [hno x hx]
    have hbl : bodyL l name = ([], 0) := by unfold bodyL; rw [hfd]
    rw [hbl] at h
    (apply AWp_exit; simp only [AThen, ABlock, reduceIte, Nat.reduceEqDiff]; clear hK K; refine hK _ _ ?_; clear hK K; refine AWp_seq_k (fun K hK => ?_); apply s_region; (iterate 2 (apply s_q; decide; rfl; (simp only [go_sem]; rfl))); apply s_nil; simp only [AThen, ABlock]; refine hK _ _ ?_; clear hK K; apply AWp_ret)
    exact ⟨H, Ext.refl H, h⟩
  have hlt : i < F.length := by simpa using hc
  obtain ⟨k, hk⟩ := gete hlt
  have hgk := kn_at hk
  (apply AWp_skip; simp only [AThen, ABlock]; refine hK _ _ ?_; clear hK K; refine AWp_seq_k (fun K hK => ?_); apply AWp_block; (iterate 2 (refine AWp_seq_k (fun K hK => ?_))); apply s_region; (iterate 7 (apply s_q; decide; rfl; (simp only [go_sem, hgk]; rfl))); apply s_nil; simp only [AThen, ABlock]; refine hK _ _ ?_; clear hK K)
  refine cond_split (by simp only [go_sem]; try rfl) (fun hd => ?_) (fun hd => ?_)
  · have hnn : ¬ k.name = name := by simpa using hd
    (apply AWp_exit; simp only [AThen, ABlock, reduceIte, Nat.reduceEqDiff]; clear hK K; refine hK _ _ ?_; clear hK K; apply s_region; (iterate 3 (apply s_q; decide; rfl; (simp only [go_sem]; rfl))); apply s_nil; simp only [AThen, ABlock])
    refine ⟨i + 1, by omega, ⟨by omega, ?_⟩, ?_, by trivial⟩
    · intro x hx
      rcases take_mem_succ hk hx with hx | hx
      · exact hi.2 x hx
      · subst hx; exact decide_eq_false hnn
    · simp only [getAll, List.map_cons, List.map_nil, AFr.get]
      rw [wrapS hlt (by omega)]; rfl
  have hnn : k.name = name := by simpa using hd
  have hfd : l.find? (fun k => decide (k.name = name)) = some k := by
    rw [← hfd0, List.find?_eq_some_iff_getElem]
    refine ⟨by simpa using hnn, i, hlt, (List.getElem?_eq_some_iff.1 hk).2, fun j hj => ?_⟩
    have := hi.2 F[j] (List.mem_take_iff_getElem.2 ⟨j, by omega, rfl⟩)
    simp [this]
  have hkm := hFs k (List.mem_of_getElem? hk)
  have hkl : k.ev.content.Len := hok k hkm
  have hbl : bodyL l name = match newestL (editsL l name k.ev) with | none => (txtJ k.ev.content kBody, 0) | some b => (txtJ (undJ b.ev.content kNew) kBody, ((editsL l name k.ev).length : Int)) := by unfold bodyL; rw [hfd]; rfl
  have hed := hed0 k.ev
  obtain ⟨o1, o2, o3, hor⟩ : ∃ r1 r2 r3, relOf k.ev = (r1, r2, r3) := ⟨_, _, _, rfl⟩
  have hOwn : ∀ (H : AHeap) (K : AV → AHeap → Prop), K (.tup [.s o1, .s o2, .s o3]) H → ACall X 11 [.agg k.ev.cells] H K := fun H K hk => rof_c25 k.ev hkl H K (by rw [hor]; exact hk)
  rw [hor] at hed
  obtain ⟨pr, hpr⟩ : ∃ pr, editB name o1 k.ev = pr := ⟨_, rfl⟩
  rw [hpr] at hed
  rw [← hed] at hbl
  (apply AWp_skip; simp only [AThen, ABlock]; refine hK _ _ ?_; clear hK K; refine AWp_seq_k (fun K hK => ?_); apply s_region; (iterate 5 (apply s_q; decide; rfl; (simp only [go_sem, hgk]; rfl))); apply s_alloc; decide; exact zc_28; intro b hb; apply s_store; (simp only [go_sem, hgk]; rfl); (simp only [go_sem, hgk]; rfl); (simp only [go_sem, hgk]; rfl); apply s_nil; simp only [AThen, ABlock]; refine hK _ _ ?_; clear hK K; refine AWp_seq_k (fun K hK => ?_); apply s_region; apply s_q; decide; rfl; (simp only [go_sem, hgk]; rfl))
  obtain ⟨p7, hnewq⟩ : ∃ q, q = b := ⟨_, rfl⟩; have hp7 := hb; rw [← hnewq] at hp7 ⊢; clear hb hnewq; try clear he; clear b
  generalize hgenq : AHeap.put p7 _ H = M; obtain ⟨g7, hextq⟩ := gen_ex hgenq hp7; have hE := hextq; clear hextq hgenq
  (apply s_call; decide; (simp only [go_sem, g7]; rfl); (simp only [go_sem, g7]; rfl); apply hOwn; (iterate 7 (apply s_q; decide; rfl; (simp only [go_sem, g7]; rfl))); apply s_nil; simp only [AThen, ABlock]; refine hK _ _ ?_; clear hK K; refine AWp_seq_k (fun K hK => ?_); apply s_region; (iterate 2 (apply s_q; decide; rfl; (simp only [go_sem, g7]; rfl))); apply s_nil; simp only [AThen, ABlock]; refine hK _ _ ?_; clear hK K; (iterate 2 (refine AWp_seq_k (fun K hK => ?_))); apply s_region; apply s_q; decide; rfl; (simp only [go_sem, g7]; rfl); apply s_nil; simp only [AThen, ABlock]; refine hK _ _ ?_; clear hK K; apply AWp_block)
  refine AWp_loop_s (σ := Nat × Option Nat) [0, 1, 7, 8, 11, 12, 13] (fun s => [.sl false (F.map Kn.cells), .s name, ptrTo p7, .s o1, .v (.int .i64 (((F.take s.1).filter pr).length : Int)), .v (.int .i64 (bestV s.2)), .v (.int .i64 s.1)]) (fun _ => M) (fun s => F.length - s.1)
    (fun s => s.1 ≤ F.length ∧ BestAt F pr s.1 s.2) (0, none) ⟨Nat.zero_le _, best_zero F pr⟩ rfl rfl (fun s hs => ?_)
  obtain ⟨j, b⟩ := s
  obtain ⟨hj, hB⟩ := hs
  simp only [List.zip_cons_cons, List.zip_nil_right] at hj hB ⊢
  ((iterate 2 (refine AWp_seq_k (fun K hK => ?_))); apply s_region; (iterate 4 (apply s_q; decide; rfl; (simp only [go_sem]; rfl))); apply s_nil; simp only [AThen, ABlock]; refine hK _ _ ?_; clear hK K)
  refine cond_split (by simp only [go_sem]; try rfl) (fun he => ?_) (fun he => ?_)
  · have hlj : j < F.length := by simpa using he
    obtain ⟨x, hx⟩ := gete hlj
    have hgx := kn_at hx
    have hxl : x.ev.content.Len := hok x (hFs x (List.mem_of_getElem? hx))
    obtain ⟨r1, r2, r3, hr⟩ : ∃ r1 r2 r3, relOf x.ev = (r1, r2, r3) := ⟨_, _, _, rfl⟩
    have hOf : ∀ (H : AHeap) (K : AV → AHeap → Prop), K (.tup [.s r1, .s r2, .s r3]) H → ACall X 11 [.agg x.ev.cells] H K := fun H K hk => rof_c25 x.ev hxl H K (by rw [hr]; exact hk)
    have hft := filter_take (p := pr) hx
    have hfl : ((F.take j).filter pr).length ≤ j := by
      have := List.length_filter_le pr (F.take j)
      rw [List.length_take] at this; omega
    have hia : pr x = ((decide (r1 = kEdit) && decide (r2 = name)) && (!decide (o1 = kEdit) && (decide (x.ev.sender = k.ev.sender) && decide (x.ev.type = k.ev.type)))) := by rw [← hpr, editB, isAbout, hr]
    (apply AWp_skip; simp only [AThen, ABlock]; refine hK _ _ ?_; clear hK K; refine AWp_seq_k (fun K hK => ?_); apply AWp_block; refine AWp_seq_k (fun K hK => ?_); apply s_region; (iterate 5 (apply s_q; decide; rfl; (simp only [go_sem, hgx]; rfl))); apply s_call; decide; (simp only [go_sem, hgx]; rfl); (simp only [go_sem, hgx]; rfl); apply hOf; (iterate 7 (apply s_q; decide; rfl; (simp only [go_sem, hgx]; rfl))); apply s_nil; simp only [AThen, ABlock]; refine hK _ _ ?_; clear hK K; refine AWp_seq_k (fun K hK => ?_))
    apply AWp_drawA [0, 1, 2, 3, 4, 5, 6, 7, 8, 9, 10, 11, 12, 13, 14, 15, 16, 17, 18, 19, 20, 21, 22, 23, 24, 25, 26, 27, 28, 29, 30, 31, 32] [] 0 (by exact mixed); kernel_rfl; (simp only [go_sem]; rfl); (simp only [go_sem]; rfl)
    ((iterate 3 (apply e_q; decide; (simp only [go_sem, hgx, g7]; rfl))); (iterate 2 (apply e_spec; decide; (simp only [go_sem, hgx, g7]; rfl); (simp only [go_sem, hgx, g7]; rfl); (simp only [go_sem, hgx, g7]; rfl); (simp only [go_sem, hgx, g7]; rfl); trivial)); apply e_spec; decide; (simp only [go_sem, hgx, g7]; rfl); (simp only [go_sem, hgx, g7]; rfl); (simp only [go_sem, hgx, g7]; rfl); (simp only [go_sem, hgx, g7]; rfl); simp [condsOk]; apply e_pick; decide; (simp only [go_sem, hgx, g7]; rfl); (simp only [go_sem, hgx, g7]; rfl); (simp only [go_sem, hgx, g7]; rfl); (simp only [go_sem, hgx, g7]; rfl); (simp only [go_sem, hgx, g7]; rfl); (simp only [go_sem, hgx, g7]; rfl); trivial; simp [condsOk]; trivial; apply e_q; decide; (simp only [go_sem, hgx, g7]; rfl); apply e_spec; decide; (simp only [go_sem, hgx, g7]; rfl); (simp only [go_sem, hgx, g7]; rfl); (simp only [go_sem, hgx, g7]; rfl); (simp only [go_sem, hgx, g7]; rfl); trivial; apply e_spec; decide; (simp only [go_sem, hgx, g7]; rfl); (simp only [go_sem, hgx, g7]; rfl); (simp only [go_sem, hgx, g7]; rfl); (simp only [go_sem, hgx, g7]; rfl); simp [condsOk]; apply e_pick; decide; (simp only [go_sem, hgx, g7]; rfl); (simp only [go_sem, hgx, g7]; rfl); (simp only [go_sem, hgx, g7]; rfl); (simp only [go_sem, hgx, g7]; rfl); (simp only [go_sem, hgx, g7]; rfl); (simp only [go_sem, hgx, g7]; rfl); trivial; simp [condsOk]; trivial; apply e_q; decide; (simp only [go_sem, hgx, g7]; rfl); (iterate 2 (apply e_spec; decide; (simp only [go_sem, hgx, g7]; rfl); (simp only [go_sem, hgx, g7]; rfl); (simp only [go_sem, hgx, g7]; rfl); (simp only [go_sem, hgx, g7]; rfl); trivial)); (iterate 4 (apply e_spec; decide; (simp only [go_sem, hgx, g7]; rfl); (simp only [go_sem, hgx, g7]; rfl); (simp only [go_sem, hgx, g7]; rfl); (simp only [go_sem, hgx, g7]; rfl); simp [condsOk])); apply e_spec; decide; (simp only [go_sem, hgx, g7]; rfl); (simp only [go_sem, hgx, g7]; rfl); (simp only [go_sem, hgx, g7]; rfl); (simp only [go_sem, hgx, g7]; rfl); trivial; (iterate 2 (apply e_spec; decide; (simp only [go_sem, hgx, g7]; rfl); (simp only [go_sem, hgx, g7]; rfl); (simp only [go_sem, hgx, g7]; rfl); (simp only [go_sem, hgx, g7]; rfl); simp [condsOk])); apply e_pick; decide; (simp only [go_sem, hgx, g7]; rfl); (simp only [go_sem, hgx, g7]; rfl); (simp only [go_sem, hgx, g7]; rfl); (simp only [go_sem, hgx, g7]; rfl); (simp only [go_sem, hgx, g7]; rfl); (simp only [go_sem, hgx, g7]; rfl); trivial; simp [condsOk]; trivial; apply e_q; decide; (simp only [go_sem, hgx, g7]; rfl); (iterate 2 (apply e_spec; decide; (simp only [go_sem, hgx, g7]; rfl); (simp only [go_sem, hgx, g7]; rfl); (simp only [go_sem, hgx, g7]; rfl); (simp only [go_sem, hgx, g7]; rfl); trivial)); (iterate 4 (apply e_spec; decide; (simp only [go_sem, hgx, g7]; rfl); (simp only [go_sem, hgx, g7]; rfl); (simp only [go_sem, hgx, g7]; rfl); (simp only [go_sem, hgx, g7]; rfl); simp [condsOk])); apply e_spec; decide; (simp only [go_sem, hgx, g7]; rfl); (simp only [go_sem, hgx, g7]; rfl); (simp only [go_sem, hgx, g7]; rfl); (simp only [go_sem, hgx, g7]; rfl); trivial; (iterate 2 (apply e_spec; decide; (simp only [go_sem, hgx, g7]; rfl); (simp only [go_sem, hgx, g7]; rfl); (simp only [go_sem, hgx, g7]; rfl); (simp only [go_sem, hgx, g7]; rfl); simp [condsOk])); apply e_pick; decide; (simp only [go_sem, hgx, g7]; rfl); (simp only [go_sem, hgx, g7]; rfl); (simp only [go_sem, hgx, g7]; rfl); (simp only [go_sem, hgx, g7]; rfl); (simp only [go_sem, hgx, g7]; rfl); (simp only [go_sem, hgx, g7]; rfl); trivial; simp [condsOk]; trivial; apply e_nil; apply t_nil; simp only [AThen, ABlock]; refine hK _ _ ?_; clear hK K)
    have hpc : (if (if (if (if decide (r1 = kEdit) = true then decide (r2 = name) else false) = true then !decide (o1 = kEdit) else false) = true then decide (x.ev.sender = k.ev.sender) else false) = true then decide (x.ev.type = k.ev.type) else false) = pr x := by
      rw [hia]
      cases decide (r1 = kEdit) <;> cases decide (r2 = name) <;> cases decide (o1 = kEdit) <;> cases decide (x.ev.sender = k.ev.sender) <;> cases decide (x.ev.type = k.ev.type) <;> rfl
    refine cond_split (by simp only [go_sem]; try rfl) (fun hf => ?_) (fun hf => ?_)
    · have hpk : pr x = true := hpc.symm.trans hf
      rw [hpk, if_pos rfl] at hft
      have hbs := best_step hB hx hpk
      have hfin : ∀ b' : Option Nat, BestAt F pr (j + 1) b' → ∃ s' : Nat × Option Nat, F.length - s'.1 < F.length - j ∧ (s'.1 ≤ F.length ∧ BestAt F pr s'.1 s'.2) ∧ [AV.sl false (F.map Kn.cells), .s name, ptrTo p7, .s o1, .v (.int .i64 ((((F.take j).filter pr).length + 1 : Nat) : Int)), .v (.int .i64 (bestV b')), .v (.int .i64 (IntKind.i64.wrap ((j : Int) + 1)))] = [AV.sl false (F.map Kn.cells), .s name, ptrTo p7, .s o1, .v (.int .i64 (((F.take s'.1).filter pr).length : Int)), .v (.int .i64 (bestV s'.2)), .v (.int .i64 s'.1)] ∧ True := fun b' hb' =>
        ⟨(j + 1, b'), by simp only; omega, ⟨by simp only; omega, hb'⟩, by simp only; rw [wrapS hlj (by omega), hft], trivial⟩
      (refine AWp_seq_k (fun K hK => ?_); apply s_region; (iterate 3 (apply s_q; decide; rfl; (simp only [go_sem]; rfl))); apply s_nil; simp only [AThen, ABlock]; refine hK _ _ ?_; clear hK K; refine AWp_seq_k (fun K hK => ?_))
      rw [wrapN2 hfl (by omega)]
      cases b with
      | none =>
        have hng : decide ((-1 : Int) < 0) = true := rfl
        simp only [bestV]
        apply AWp_drawA [0, 1, 2, 3, 4, 5, 6, 7, 8, 9, 10, 11, 12] [] 0 (by exact mixed); kernel_rfl; (simp only [go_sem]; rfl); (simp only [go_sem]; rfl)
        ((iterate 3 (apply e_q; decide; (simp only [go_sem, hng]; rfl))); (iterate 2 (apply e_spec; decide; (simp only [go_sem, hng]; rfl); (simp only [go_sem, hng]; rfl); (simp only [go_sem, hng]; rfl); (simp only [go_sem, hng]; rfl); trivial)); (iterate 2 (apply e_when (av := (.v (.bool false))); decide; (simp only [go_sem, hng]; rfl); (simp only [go_sem, hng]; rfl); (simp only [go_sem, hng]; rfl); trivial; (focus (intro hg; first | (cases hg; done) | (simp at hg; done))))); (iterate 2 (apply e_spec; decide; (simp only [go_sem, hng]; rfl); (simp only [go_sem, hng]; rfl); (simp only [go_sem, hng]; rfl); (simp only [go_sem, hng]; rfl); trivial)); (iterate 3 (apply e_when (av := (.v (.bool false))); decide; (simp only [go_sem, hng]; rfl); (simp only [go_sem, hng]; rfl); (simp only [go_sem, hng]; rfl); trivial; (focus (intro hg; first | (cases hg; done) | (simp at hg; done))))); apply e_pick; decide; (simp only [go_sem, hng]; rfl); (simp only [go_sem, hng]; rfl); (simp only [go_sem, hng]; rfl); (simp only [go_sem, hng]; rfl); (simp only [go_sem, hng]; rfl); (simp only [go_sem, hng]; rfl); trivial; trivial; trivial; apply e_nil; apply t_nil; simp only [AThen, ABlock]; refine hK _ _ ?_; clear hK K)
        refine cond_split (by simp only [go_sem]; try rfl) (fun hg => ?_) (fun hg => ?_)
        · (apply s_region; (iterate 2 (apply s_q; decide; rfl; (simp only [go_sem]; rfl))); apply s_nil; simp only [AThen, ABlock]; refine hK _ _ ?_; clear hK K; apply s_region; (iterate 3 (apply s_q; decide; rfl; (simp only [go_sem]; rfl))); apply s_nil; simp only [AThen, ABlock])
          exact hfin (some j) hbs
        · cases hg
      | some i2 =>
        have hji := hB.1 i2 rfl
        obtain ⟨y, hy⟩ := gete (l := F) (i := i2) (by omega)
        have hgy := kn_at hy
        have hnj : decide ((i2 : Int) < 0) = false := decide_eq_false (by omega)
        have hjx : (some i2).bind (F[·]?) = some y := hy
        rw [hjx] at hbs
        simp only at hbs
        simp only [bestV]
        apply AWp_drawA [0, 1, 2, 3, 4, 5, 6, 7, 8, 9, 10, 11, 12] [] 0 (by exact mixed); kernel_rfl; (simp only [go_sem]; rfl); (simp only [go_sem]; rfl)
        ((iterate 3 (apply e_q; decide; (simp only [go_sem, hnj, hgx, hgy]; rfl))); (iterate 8 (apply e_spec; decide; (simp only [go_sem, hnj, hgx, hgy]; rfl); (simp only [go_sem, hnj, hgx, hgy]; rfl); (simp only [go_sem, hnj, hgx, hgy]; rfl); (simp only [go_sem, hnj, hgx, hgy]; rfl); trivial)); apply e_gpure; decide; (simp only [go_sem, hnj, hgx, hgy]; rfl); (simp only [go_sem, hnj, hgx, hgy]; rfl); (simp only [go_sem, hnj, hgx, hgy]; rfl); trivial; (simp only [go_sem, hnj, hgx, hgy]; rfl); (simp only [go_sem, hnj, hgx, hgy]; rfl); (apply later_c x y; exact ⟨rfl, rfl⟩); apply e_pick; decide; (simp only [go_sem, hnj, hgx, hgy]; rfl); (simp only [go_sem, hnj, hgx, hgy]; rfl); (simp only [go_sem, hnj, hgx, hgy]; rfl); (simp only [go_sem, hnj, hgx, hgy]; rfl); (simp only [go_sem, hnj, hgx, hgy]; rfl); (simp only [go_sem, hnj, hgx, hgy]; rfl); trivial; trivial; trivial; apply e_nil; apply t_nil; simp only [AThen, ABlock]; refine hK _ _ ?_; clear hK K)
        refine cond_split (by simp only [go_sem]; try rfl) (fun hg => ?_) (fun hg => ?_)
        · have hlt2 : later x y = true := by simpa using hg
          rw [if_pos hlt2] at hbs
          (apply s_region; (iterate 2 (apply s_q; decide; rfl; (simp only [go_sem]; rfl))); apply s_nil; simp only [AThen, ABlock]; refine hK _ _ ?_; clear hK K; apply s_region; (iterate 3 (apply s_q; decide; rfl; (simp only [go_sem]; rfl))); apply s_nil; simp only [AThen, ABlock])
          exact hfin (some j) hbs
        · have hlt2 : later x y = false := by simpa using hg
          rw [if_neg (by simp [hlt2])] at hbs
          (apply AWp_skip; simp only [AThen, ABlock]; refine hK _ _ ?_; clear hK K; apply s_region; (iterate 3 (apply s_q; decide; rfl; (simp only [go_sem]; rfl))); apply s_nil; simp only [AThen, ABlock])
          exact hfin (some i2) hbs
    · have hpk : pr x = false := hpc.symm.trans hf
      rw [hpk, if_neg (by simp)] at hft
      (apply AWp_skip; simp only [AThen, ABlock]; refine hK _ _ ?_; clear hK K; apply s_region; (iterate 3 (apply s_q; decide; rfl; (simp only [go_sem]; rfl))); apply s_nil; simp only [AThen, ABlock])
      refine ⟨(j + 1, b), by simp only; omega, ⟨by simp only; omega, best_skip hB hx hpk⟩, ?_, by trivial⟩
      simp only [getAll, List.map_cons, List.map_nil, AFr.get, reduceIte, Nat.reduceEqDiff]
      rw [wrapS hlj (by omega), hft]; try rfl
  · have hge : F.length ≤ j := by simpa using he
    have hiF : j = F.length := by omega
    subst hiF
    have hbe := best_end hFn hB
    rw [List.take_length]
    rw [hbl, ← hbe] at h
    cases b with
    | none =>
      have hng : decide ((-1 : Int) < 0) = true := rfl
      have hT : ∀ (H : AHeap) (K : AV → AHeap → Prop), K (.s (txtJ k.ev.content kBody)) H → ACall X 28 [.agg [.v (.int .i64 k.ev.content.kind), .v (.int .i64 k.ev.content.int), .s k.ev.content.text, .sl false (k.ev.content.keys.map strCells), .sl false (k.ev.content.list.map J.cells)], .s kBody] H K := fun H K hk => by
        have := rtext_c k.ev.content kBody ⟨(J.len_eq.1 hkl).1, (J.len_eq.1 hkl).2.1⟩ H K hk
        rwa [J.cells_eq] at this
      simp only [bestV]
      (apply AWp_exit; simp only [AThen, ABlock, reduceIte, Nat.reduceEqDiff]; clear hK K; refine hK _ _ ?_; clear hK K; (iterate 2 (refine AWp_seq_k (fun K hK => ?_))); apply s_region; (iterate 2 (apply s_q; decide; rfl; (simp only [go_sem]; rfl))); apply s_nil; simp only [AThen, ABlock]; refine hK _ _ ?_; clear hK K)
      refine cond_split (by simp only [go_sem]; try rfl) (fun hg => ?_) (fun hg => ?_)
      rotate_left
      · cases hg
      (refine AWp_seq_k (fun K hK => ?_); apply s_region; (iterate 2 (apply s_q; decide; rfl; (simp only [go_sem, g7]; rfl))); apply s_call; decide; (simp only [go_sem, g7]; rfl); (simp only [go_sem, g7]; rfl); apply hT; (iterate 2 (apply s_q; decide; rfl; (simp only [go_sem, g7]; rfl))); apply s_nil; simp only [AThen, ABlock]; refine hK _ _ ?_; clear hK K; apply AWp_ret; simp only [AThen, ABlock]; apply end_ret; rfl; simp only [AFr.get, reduceIte, Nat.reduceEqDiff])
      exact ⟨H, hE, h⟩
    | some i2 =>
      have hji := hB.1 i2 rfl
      obtain ⟨y, hy⟩ := gete (l := F) (i := i2) (by omega)
      have hgy := kn_at hy
      have hyl : y.ev.content.Len := hok y (hFs y (List.mem_of_getElem? hy))
      have hjx : (some i2).bind (F[·]?) = some y := hy
      rw [hjx] at h
      simp only at h
      obtain ⟨u, hu⟩ : ∃ u, undJ y.ev.content kNew = u := ⟨_, rfl⟩
      rw [hu] at h
      have hul := J.len_eq.1 (show u.Len from hu ▸ und_len hyl kNew)
      obtain ⟨b0, hb0⟩ := getRes_und y.ev.content kNew
      rw [hu, J.cells_eq] at hb0
      have hU : ∀ (H : AHeap) (K : AV → AHeap → Prop), K (.tup [.agg [.v (.int .i64 u.kind), .v (.int .i64 u.int), .s u.text, .sl false (u.keys.map strCells), .sl false (u.list.map J.cells)], .v (.bool b0)]) H → ACall X 27 [.agg [.v (.int .i64 y.ev.content.kind), .v (.int .i64 y.ev.content.int), .s y.ev.content.text, .sl false (y.ev.content.keys.map strCells), .sl false (y.ev.content.list.map J.cells)], .s kNew] H K := fun H K hk => by
        have := get_c y.ev.content ⟨by have := (J.len_eq.1 hyl).1; omega, by have := (J.len_eq.1 hyl).2.1; omega⟩ kNew H K (by rw [hb0]; exact hk)
        rwa [J.cells_eq] at this
      have hT : ∀ (H : AHeap) (K : AV → AHeap → Prop), K (.s (txtJ u kBody)) H → ACall X 28 [.agg [.v (.int .i64 u.kind), .v (.int .i64 u.int), .s u.text, .sl false (u.keys.map strCells), .sl false (u.list.map J.cells)], .s kBody] H K := fun H K hk => by
        have := rtext_c u kBody ⟨hul.1, hul.2.1⟩ H K hk
        rwa [J.cells_eq] at this
      simp only [bestV]
      (apply AWp_exit; simp only [AThen, ABlock, reduceIte, Nat.reduceEqDiff]; clear hK K; refine hK _ _ ?_; clear hK K; (iterate 2 (refine AWp_seq_k (fun K hK => ?_))); apply s_region; (iterate 2 (apply s_q; decide; rfl; (simp only [go_sem]; rfl))); apply s_nil; simp only [AThen, ABlock]; refine hK _ _ ?_; clear hK K)
      refine cond_split (by simp only [go_sem]; try rfl) (fun hg => ?_) (fun hg => ?_)
      · simp at hg; omega
      (apply AWp_skip; simp only [AThen, ABlock]; refine hK _ _ ?_; clear hK K; refine AWp_seq_k (fun K hK => ?_); apply s_region; (iterate 6 (apply s_q; decide; rfl; (simp only [go_sem, hgy]; rfl))); apply s_call; decide; (simp only [go_sem, hgy]; rfl); (simp only [go_sem, hgy]; rfl); apply hU; (iterate 3 (apply s_q; decide; rfl; (simp only [go_sem, hgy]; rfl))); apply s_alloc; decide; exact zc_25; intro b hb; apply s_store; (simp only [go_sem, hgy]; rfl); (simp only [go_sem, hgy]; rfl); (simp only [go_sem, hgy]; rfl); apply s_q; decide; rfl; (simp only [go_sem, hgy]; rfl); apply s_nil; simp only [AThen, ABlock]; refine hK _ _ ?_; clear hK K; refine AWp_seq_k (fun K hK => ?_); apply s_region; apply s_q; decide; rfl; (simp only [go_sem, hgy]; rfl))
      obtain ⟨p17, hnewq⟩ : ∃ q, q = b := ⟨_, rfl⟩; have hp17 := hb; rw [← hnewq] at hp17 ⊢; clear hb hnewq; try clear he; clear b
      generalize hgenq : AHeap.put p17 _ M = M2; obtain ⟨g17, hextq⟩ := gen_ex hgenq hp17; have hE := Ext.trans hE hextq; clear hextq hgenq
      (apply s_call; decide; (simp only [go_sem, g17]; rfl); (simp only [go_sem, g17]; rfl); apply hT; (iterate 3 (apply s_q; decide; rfl; (simp only [go_sem, g17]; rfl))); apply s_nil; simp only [AThen, ABlock]; refine hK _ _ ?_; clear hK K; apply AWp_ret; simp only [AThen, ABlock]; apply end_ret; rfl; simp only [AFr.get, reduceIte, Nat.reduceEqDiff])
      exact ⟨H, hE, h⟩
end Go.Proofs.Ytmloandpjbimkaa
