/-
  RelateSorts: walked.
-/
import Derived.Test.YtmloandpjbimkaaW25Q
set_option linter.unusedSimpArgs false
set_option linter.unusedVariables false
set_option maxRecDepth 100000
namespace Go.Proofs.Ytmloandpjbimkaa
open Go Go.AL
attribute [local irreducible] AOps AWp SOps AE AT ACall AApp

theorem rel_key {e : Ev} (h : (relOf e).1 = kReact) : (relOf e).2.2 ≠ [] := by
  unfold relOf at h ⊢
  simp only at h ⊢
  split at h
  · exact absurd h (by decide)
  · rename_i h1
    split at h
    · rename_i h2
      rcases h2 with h2 | h2
      · exact absurd (h2.symm.trans h) (by decide)
      · exact absurd (h2.symm.trans h) (by decide)
    · rename_i h2
      split at h
      · rename_i h3
        rw [if_neg h1, if_neg h2, if_pos h3]; exact h3.2
      · exact absurd h (by decide)
theorem react_keys {l : List Kn} {name : List UInt8} {c : Cnt} (hc : c ∈ reactL l name) : c.key ≠ [] ∧ c.users ≠ [] ∧ Rising c.users := by
  rw [reactL, (sortC_perm _).mem_iff, cntsOf] at hc
  obtain ⟨q, hq, rfl⟩ := List.mem_map.1 hc
  obtain ⟨k, hk, hkq⟩ := mem_keys.1 hq
  refine ⟨?_, ?_, sortL_rising (dedup_ok _).1⟩
  · have := (List.mem_filter.1 hk).2
    simp only [isAbout, Bool.and_eq_true, decide_eq_true_eq] at this
    have h2 := rel_key this.1
    rw [← hkq]; exact h2
  · intro e
    have : k.ev.sender ∈ sendersOf (aboutL l kReact name) q := by
      rw [sendersOf, (sortL_perm _).mem_iff]; exact mem_users.2 ⟨k, hk, hkq, rfl⟩
    simp only at e
    rw [e] at this; cases this
theorem react_ahead {l : List Kn} {name : List UInt8} {i j : Nat} {a b : Cnt} (hij : i < j) (ha : (reactL l name)[i]? = some a) (hb : (reactL l name)[j]? = some b) : ahead a b := by
  have hs : (reactL l name).Pairwise fun a b => leC a b = true := List.pairwise_mergeSort leC_tr leC_tot _
  have hi := (List.getElem?_eq_some_iff.1 ha).1
  have hj := (List.getElem?_eq_some_iff.1 hb).1
  have h1 := List.pairwise_iff_getElem.1 hs i j hi hj hij
  rw [(List.getElem?_eq_some_iff.1 ha).2, (List.getElem?_eq_some_iff.1 hb).2, leC_iff] at h1
  have hn : ((reactL l name).map (·.key)).Nodup := ((sortC_perm _).map _).nodup_iff.2 (cnts_nodup _)
  have hne : a.key ≠ b.key := fun e => by
    have := nodup_inj (a := a.key) hn (by rw [List.getElem?_map, ha]; rfl) (by rw [List.getElem?_map, hb, e]; rfl)
    omega
  unfold ahead at h1 ⊢
  rw [not_or, not_and] at h1
  by_cases h2 : b.users.length < a.users.length
  · exact .inl h2
  · have e : a.users.length = b.users.length := by omega
    refine .inr ⟨e, ?_⟩
    have h3 := h1.2 e.symm
    rcases lt_tri a.key b.key with h4 | h4 | h4
    · exact h4
    · exact absurd h4 hne
    · exact absurd h4 h3
set_option maxHeartbeats 8000000 in
theorem relateSorts_c (hS : HSort) (hKy : HKeys) (l : List Kn) (hl : l.length ≤ 4611686018427387904) (hw : ∀ k ∈ l, k.Wide) (name : List UInt8) (H : AHeap) (K : AV → AHeap → Prop) (h : K (.v (.bool true)) H) : ACall X 8 [.sl false (l.map Kn.cells), .s name] H K := by
  refine ACall.drop ?_
  have hok : ∀ k ∈ l, k.Ok := fun k hk => (hw k hk).1
  have hsn : ∀ k ∈ l, k.ev.sender.length ≤ 4611686018427387904 := fun k hk => (hw k hk).2.2.2.2
  refine ACall_intro Try.func8 rfl (by kernel_rfl) (by rw [Try.ntmps8]; simp) ?_; rw [Try.ntmps8]; simp only [frame0, Nat.reduceAdd]
  (refine AWp_seq_k (fun K hK => ?_); apply s_region; apply s_q; decide; rfl; (simp only [go_sem]; rfl); apply s_nil; simp only [AThen, ABlock]; refine hK _ _ ?_; clear hK K; (iterate 2 (refine AWp_seq_k (fun K hK => ?_))); apply s_region; (iterate 2 (apply s_q; decide; rfl; (simp only [go_sem]; rfl))); apply s_call; decide; (simp only [go_sem]; rfl); (simp only [go_sem]; rfl); apply few25_c false l hl hw name; intro b2 h30; apply s_q; decide; rfl; (simp only [go_sem]; rfl); apply s_nil; simp only [AThen, ABlock]; refine hK _ _ ?_; clear hK K)
  refine cond_split (by simp only [go_sem]; try rfl) (fun hc => ?_) (fun hc => ?_)
  · (refine AWp_seq_k (fun K hK => ?_); apply s_region; apply s_q; decide; rfl; (simp only [go_sem]; rfl); apply s_nil; simp only [AThen, ABlock]; refine hK _ _ ?_; clear hK K; apply AWp_ret; simp only [AThen, ABlock]; apply end_ret; rfl; simp only [AFr.get, reduceIte, Nat.reduceEqDiff])
    exact ⟨H, Ext.refl H, h⟩
  have hb2 : b2 = true := by simpa using hc
  have hl2 : l.length ≤ 1000000 := Nat.le_trans (h30 hb2) (by decide)
  have hcl : (reactL l name).length ≤ 1000000 := Nat.le_trans (react_len l name) hl2
  have hcu : ∀ c ∈ reactL l name, c.users.length ≤ 1000000 := fun c hc => Nat.le_trans (react_users l name c hc) hl2
  (apply AWp_skip; simp only [AThen, ABlock]; refine hK _ _ ?_; clear hK K; refine AWp_seq_k (fun K hK => ?_); apply s_region; (iterate 2 (apply s_q; decide; rfl; (simp only [go_sem]; rfl))); apply s_call; decide; (simp only [go_sem]; rfl); (simp only [go_sem]; rfl); apply reactions_c hS hKy false l name hl2 hok hsn; apply s_q; decide; rfl; (simp only [go_sem]; rfl); apply s_nil; simp only [AThen, ABlock]; refine hK _ _ ?_; clear hK K; (iterate 2 (refine AWp_seq_k (fun K hK => ?_))); apply s_region; apply s_q; decide; rfl; (simp only [go_sem]; rfl); apply s_nil; simp only [AThen, ABlock]; refine hK _ _ ?_; clear hK K; apply AWp_block)
  obtain ⟨R, hR⟩ : ∃ R, reactL l name = R := ⟨_, rfl⟩
  have hRk : ∀ c ∈ R, c.key ≠ [] ∧ c.users ≠ [] ∧ Rising c.users := fun c hc => react_keys (hR ▸ hc)
  have hRa : ∀ (i j : Nat) (a b : Cnt), i < j → R[i]? = some a → R[j]? = some b → ahead a b := fun i j a b hij ha hb => react_ahead hij (by rw [hR]; exact ha) (by rw [hR]; exact hb)
  rw [hR] at hcl hcu ⊢
  refine AWp_loop_s (σ := Nat) [0, 1, 5, 6] (fun i => [.sl false (l.map Kn.cells), .s name, .sl false (R.map Cnt.cells), .v (.int .i64 i)]) (fun _ => H) (fun i => R.length - i) (fun i => i ≤ R.length) 0 (Nat.zero_le _) rfl rfl (fun i hi => ?_)
  simp only [List.zip_cons_cons, List.zip_nil_right]
  ((iterate 2 (refine AWp_seq_k (fun K hK => ?_))); apply s_region; (iterate 4 (apply s_q; decide; rfl; (simp only [go_sem]; rfl))); apply s_nil; simp only [AThen, ABlock]; refine hK _ _ ?_; clear hK K)
  refine cond_split (by simp only [go_sem]; try rfl) (fun hd => ?_) (fun hd => ?_)
  · have hlt : i < R.length := by simpa using hd
    obtain ⟨c, hm⟩ := gete hlt
    have hgc := cnt_at hm
    obtain ⟨hk1, hk2, hk3⟩ := hRk c (List.mem_of_getElem? hm)
    have hul := hcu c (List.mem_of_getElem? hm)
    have hl0 : decide ((c.users.length : Int) = 0) = false := by
      refine decide_eq_false fun e => hk2 ?_
      exact List.length_eq_zero_iff.1 (by omega)
    have hk0 : decide (c.key = []) = false := decide_eq_false hk1
    have hlu : (c.users.map strCells).length = c.users.length := List.length_map _
    (apply AWp_skip; simp only [AThen, ABlock]; refine hK _ _ ?_; clear hK K; refine AWp_seq_k (fun K hK => ?_); apply AWp_block; (iterate 2 (refine AWp_seq_k (fun K hK => ?_))))
    rename_i K1 hK1
    have hrest : ∀ fr' : AFr, getAll [0, 1, 5, 6] fr' = [.sl false (l.map Kn.cells), .s name, .sl false (R.map Cnt.cells), .v (.int .i64 i)] → K1 fr' H := by
      intro fr' hfr
      refine hK1 _ _ (AWp_cut _ hfr ?_)
      clear hK1
      simp only [List.zip_cons_cons, List.zip_nil_right]
      (refine AWp_seq_k (fun K hK => ?_); apply s_region; apply s_q; decide; rfl; (simp only [go_sem]; rfl); apply s_nil; simp only [AThen, ABlock]; refine hK _ _ ?_; clear hK K; apply AWp_block)
      refine AWp_loop_s (σ := Nat) [0, 1, 5, 6, 7] (fun k => [.sl false (l.map Kn.cells), .s name, .sl false (R.map Cnt.cells), .v (.int .i64 i), .v (.int .i64 ((k + 1 : Nat) : Int))]) (fun _ => H) (fun k => c.users.length - k) (fun k => k + 1 ≤ c.users.length) 0 (by
        have : c.users.length ≠ 0 := fun e => hk2 (List.length_eq_zero_iff.1 e)
        omega) rfl rfl (fun k hk => ?_)
      simp only [List.zip_cons_cons, List.zip_nil_right]
      ((iterate 2 (refine AWp_seq_k (fun K hK => ?_))); apply s_region; (iterate 8 (apply s_q; decide; rfl; (simp only [go_sem, hgc, hlu]; rfl))); apply s_nil; simp only [AThen, ABlock]; refine hK _ _ ?_; clear hK K)
      refine cond_split (by simp only [go_sem]; try rfl) (fun he => ?_) (fun he => ?_)
      · have hlk : k + 1 < c.users.length := by simp at he; omega
        obtain ⟨u, hum⟩ := gete hlk
        obtain ⟨v, hvm⟩ := gete (l := c.users) (i := k) (by omega)
        have hgu := jstr_at hum
        have hgv := jstr_at hvm
        have hw1 : IntKind.i64.wrap (((k + 1 : Nat) : Int) - 1) = (k : Int) := by rw [wrap64 (by omega)]; omega
        have hvu : v < u := by
          have := List.pairwise_iff_getElem.1 hk3 k (k + 1) (by omega) hlk (by omega)
          rwa [(List.getElem?_eq_some_iff.1 hvm).2, (List.getElem?_eq_some_iff.1 hum).2] at this
        (apply AWp_skip; simp only [AThen, ABlock]; refine hK _ _ ?_; clear hK K; refine AWp_seq_k (fun K hK => ?_); apply AWp_block; refine AWp_seq_k (fun K hK => ?_))
        apply AWp_drawA [0, 1, 2, 3, 4, 5, 6, 7, 8, 9, 10, 11, 12, 13, 14, 15, 16, 17] [] 0 (by exact mixed); kernel_rfl; (simp only [go_sem]; rfl); (simp only [go_sem]; rfl)
        ((iterate 18 (apply e_q; decide; (simp only [go_sem, hgc, hgu, hgv, hw1]; rfl))); apply e_nil; apply t_nil; simp only [AThen, ABlock]; refine hK _ _ ?_; clear hK K)
        refine cond_split (by simp only [go_sem]; try rfl) (fun hf => ?_) (fun hf => ?_)
        · exfalso
          rw [blt_eq] at hf
          simp only [Bool.or_eq_true, decide_eq_true_eq] at hf
          rcases hf with hf | hf
          · exact lt_irr _ (lt_tr hf hvu)
          · subst hf; exact lt_irr _ hvu
        (apply AWp_skip; simp only [AThen, ABlock]; refine hK _ _ ?_; clear hK K; apply s_region; (iterate 3 (apply s_q; decide; rfl; (simp only [go_sem]; rfl))); apply s_nil; simp only [AThen, ABlock])
        refine ⟨k + 1, by omega, by omega, ?_, by trivial⟩
        simp only [getAll, List.map_cons, List.map_nil, AFr.get]
        rw [wrapS hlk (by omega)]; rfl
      · (apply AWp_exit; simp only [AThen, ABlock, reduceIte, Nat.reduceEqDiff]; clear hK K; clear hK K; refine hK _ _ ?_; clear hK K; apply s_region; (iterate 3 (apply s_q; decide; rfl; (simp only [go_sem]; rfl))); apply s_nil; simp only [AThen, ABlock])
        refine ⟨i + 1, by omega, by omega, ?_, by trivial⟩
        simp only [getAll, List.map_cons, List.map_nil, AFr.get]
        rw [wrapS hlt (by omega)]; rfl
    clear hK1
    cases i with
    | zero =>
      have hi0 : decide ((0 : Int) < ((0 : Nat) : Int)) = false := rfl
      apply AWp_drawA [0, 1, 2, 3, 4, 5, 6, 7, 8, 9, 10, 11, 12, 13, 14, 15, 16, 17, 18, 19, 20, 21, 22, 23, 24, 25, 26, 27, 28, 29, 30, 31, 32, 33, 34, 35, 36, 37, 38, 39, 40, 41, 42, 43, 44, 45, 46, 47, 48, 49, 50, 51, 52, 53, 54, 55, 56, 57, 58, 59, 60, 61, 62, 63, 64] [] 0 (by exact mixed); kernel_rfl; (simp only [go_sem]; rfl); (simp only [go_sem]; rfl)
      ((iterate 8 (apply e_q; decide; (simp only [go_sem, hgc, hl0, hk0, hi0]; rfl))); (iterate 6 (apply e_spec; decide; (simp only [go_sem, hgc, hl0, hk0, hi0]; rfl); (simp only [go_sem, hgc, hl0, hk0, hi0]; rfl); (simp only [go_sem, hgc, hl0, hk0, hi0]; rfl); (simp only [go_sem, hgc, hl0, hk0, hi0]; rfl); trivial)); apply e_pick; decide; (simp only [go_sem, hgc, hl0, hk0, hi0]; rfl); (simp only [go_sem, hgc, hl0, hk0, hi0]; rfl); (simp only [go_sem, hgc, hl0, hk0, hi0]; rfl); (simp only [go_sem, hgc, hl0, hk0, hi0]; rfl); (simp only [go_sem, hgc, hl0, hk0, hi0]; rfl); (simp only [go_sem, hgc, hl0, hk0, hi0]; rfl); trivial; trivial; trivial; apply e_q; decide; (simp only [go_sem, hgc, hl0, hk0, hi0]; rfl); (iterate 12 (apply e_spec; decide; (simp only [go_sem, hgc, hl0, hk0, hi0]; rfl); (simp only [go_sem, hgc, hl0, hk0, hi0]; rfl); (simp only [go_sem, hgc, hl0, hk0, hi0]; rfl); (simp only [go_sem, hgc, hl0, hk0, hi0]; rfl); trivial)); (iterate 5 (apply e_when (av := (.v (.bool false))); decide; (simp only [go_sem, hgc, hl0, hk0, hi0]; rfl); (simp only [go_sem, hgc, hl0, hk0, hi0]; rfl); (simp only [go_sem, hgc, hl0, hk0, hi0]; rfl); trivial; (focus (intro hg; first | (cases hg; done) | (simp at hg; done))))); (iterate 10 (apply e_spec; decide; (simp only [go_sem, hgc, hl0, hk0, hi0]; rfl); (simp only [go_sem, hgc, hl0, hk0, hi0]; rfl); (simp only [go_sem, hgc, hl0, hk0, hi0]; rfl); (simp only [go_sem, hgc, hl0, hk0, hi0]; rfl); trivial)); (iterate 5 (apply e_when (av := (.v (.bool false))); decide; (simp only [go_sem, hgc, hl0, hk0, hi0]; rfl); (simp only [go_sem, hgc, hl0, hk0, hi0]; rfl); (simp only [go_sem, hgc, hl0, hk0, hi0]; rfl); trivial; (focus (intro hg; first | (cases hg; done) | (simp at hg; done))))); (iterate 9 (apply e_spec; decide; (simp only [go_sem, hgc, hl0, hk0, hi0]; rfl); (simp only [go_sem, hgc, hl0, hk0, hi0]; rfl); (simp only [go_sem, hgc, hl0, hk0, hi0]; rfl); (simp only [go_sem, hgc, hl0, hk0, hi0]; rfl); trivial)); (iterate 4 (apply e_when (av := (.v (.bool false))); decide; (simp only [go_sem, hgc, hl0, hk0, hi0]; rfl); (simp only [go_sem, hgc, hl0, hk0, hi0]; rfl); (simp only [go_sem, hgc, hl0, hk0, hi0]; rfl); trivial; (focus (intro hg; first | (cases hg; done) | (simp at hg; done))))); (iterate 3 (apply e_pickg; decide; (simp only [go_sem, hgc, hl0, hk0, hi0]; rfl); (simp only [go_sem, hgc, hl0, hk0, hi0]; rfl); (simp only [go_sem, hgc, hl0, hk0, hi0]; rfl); (simp only [go_sem, hgc, hl0, hk0, hi0]; rfl); (simp only [go_sem, hgc, hl0, hk0, hi0]; rfl); (simp only [go_sem, hgc, hl0, hk0, hi0]; rfl); (simp only [go_sem, hgc, hl0, hk0, hi0]; rfl); (simp only [go_sem, hgc, hl0, hk0, hi0]; rfl); trivial; trivial; trivial)); apply e_pick; decide; (simp only [go_sem, hgc, hl0, hk0, hi0]; rfl); (simp only [go_sem, hgc, hl0, hk0, hi0]; rfl); (simp only [go_sem, hgc, hl0, hk0, hi0]; rfl); (simp only [go_sem, hgc, hl0, hk0, hi0]; rfl); (simp only [go_sem, hgc, hl0, hk0, hi0]; rfl); (simp only [go_sem, hgc, hl0, hk0, hi0]; rfl); trivial; trivial; trivial; apply e_nil; apply t_nil; simp only [AThen, ABlock]; refine hK _ _ ?_; clear hK K)
      refine cond_split (by simp only [go_sem]; try rfl) (fun he => ?_) (fun he => ?_)
      · simp at he
      (apply AWp_skip; simp only [AThen, ABlock])
      exact hrest _ rfl
    | succ i =>
      have hi0 : decide ((0 : Int) < ((i + 1 : Nat) : Int)) = true := decide_eq_true (by omega)
      have hw1 : IntKind.i64.wrap (((i + 1 : Nat) : Int) - 1) = (i : Int) := by rw [wrap64 (by omega)]; omega
      obtain ⟨p, hpm⟩ := gete (l := R) (i := i) (by omega)
      have hgp := cnt_at hpm
      have hah := hRa i (i + 1) p c (by omega) hpm hm
      apply AWp_drawA [0, 1, 2, 3, 4, 5, 6, 7, 8, 9, 10, 11, 12, 13, 14, 15, 16, 17, 18, 19, 20, 21, 22, 23, 24, 25, 26, 27, 28, 29, 30, 31, 32, 33, 34, 35, 36, 37, 38, 39, 40, 41, 42, 43, 44, 45, 46, 47, 48, 49, 50, 51, 52, 53, 54, 55, 56, 57, 58, 59, 60, 61, 62, 63, 64] [] 0 (by exact mixed); kernel_rfl; (simp only [go_sem]; rfl); (simp only [go_sem]; rfl)
      ((iterate 8 (apply e_q; decide; (simp only [go_sem, hgc, hgp, hl0, hk0, hi0, hw1]; rfl))); (iterate 6 (apply e_spec; decide; (simp only [go_sem, hgc, hgp, hl0, hk0, hi0, hw1]; rfl); (simp only [go_sem, hgc, hgp, hl0, hk0, hi0, hw1]; rfl); (simp only [go_sem, hgc, hgp, hl0, hk0, hi0, hw1]; rfl); (simp only [go_sem, hgc, hgp, hl0, hk0, hi0, hw1]; rfl); trivial)); apply e_pick; decide; (simp only [go_sem, hgc, hgp, hl0, hk0, hi0, hw1]; rfl); (simp only [go_sem, hgc, hgp, hl0, hk0, hi0, hw1]; rfl); (simp only [go_sem, hgc, hgp, hl0, hk0, hi0, hw1]; rfl); (simp only [go_sem, hgc, hgp, hl0, hk0, hi0, hw1]; rfl); (simp only [go_sem, hgc, hgp, hl0, hk0, hi0, hw1]; rfl); (simp only [go_sem, hgc, hgp, hl0, hk0, hi0, hw1]; rfl); trivial; trivial; trivial; apply e_q; decide; (simp only [go_sem, hgc, hgp, hl0, hk0, hi0, hw1]; rfl); (iterate 20 (apply e_spec; decide; (simp only [go_sem, hgc, hgp, hl0, hk0, hi0, hw1]; rfl); (simp only [go_sem, hgc, hgp, hl0, hk0, hi0, hw1]; rfl); (simp only [go_sem, hgc, hgp, hl0, hk0, hi0, hw1]; rfl); (simp only [go_sem, hgc, hgp, hl0, hk0, hi0, hw1]; rfl); trivial)); (iterate 4 (apply e_spec; decide; (simp only [go_sem, hgc, hgp, hl0, hk0, hi0, hw1]; rfl); (simp only [go_sem, hgc, hgp, hl0, hk0, hi0, hw1]; rfl); (simp only [go_sem, hgc, hgp, hl0, hk0, hi0, hw1]; rfl); (simp only [go_sem, hgc, hgp, hl0, hk0, hi0, hw1]; rfl); simp [condsOk])); (iterate 2 (apply e_spec; decide; (simp only [go_sem, hgc, hgp, hl0, hk0, hi0, hw1]; rfl); (simp only [go_sem, hgc, hgp, hl0, hk0, hi0, hw1]; rfl); (simp only [go_sem, hgc, hgp, hl0, hk0, hi0, hw1]; rfl); (simp only [go_sem, hgc, hgp, hl0, hk0, hi0, hw1]; rfl); trivial)); (iterate 7 (apply e_spec; decide; (simp only [go_sem, hgc, hgp, hl0, hk0, hi0, hw1]; rfl); (simp only [go_sem, hgc, hgp, hl0, hk0, hi0, hw1]; rfl); (simp only [go_sem, hgc, hgp, hl0, hk0, hi0, hw1]; rfl); (simp only [go_sem, hgc, hgp, hl0, hk0, hi0, hw1]; rfl); simp [condsOk])); (iterate 2 (apply e_spec; decide; (simp only [go_sem, hgc, hgp, hl0, hk0, hi0, hw1]; rfl); (simp only [go_sem, hgc, hgp, hl0, hk0, hi0, hw1]; rfl); (simp only [go_sem, hgc, hgp, hl0, hk0, hi0, hw1]; rfl); (simp only [go_sem, hgc, hgp, hl0, hk0, hi0, hw1]; rfl); trivial)); (iterate 3 (apply e_spec; decide; (simp only [go_sem, hgc, hgp, hl0, hk0, hi0, hw1]; rfl); (simp only [go_sem, hgc, hgp, hl0, hk0, hi0, hw1]; rfl); (simp only [go_sem, hgc, hgp, hl0, hk0, hi0, hw1]; rfl); (simp only [go_sem, hgc, hgp, hl0, hk0, hi0, hw1]; rfl); simp [condsOk])); (iterate 2 (apply e_spec; decide; (simp only [go_sem, hgc, hgp, hl0, hk0, hi0, hw1]; rfl); (simp only [go_sem, hgc, hgp, hl0, hk0, hi0, hw1]; rfl); (simp only [go_sem, hgc, hgp, hl0, hk0, hi0, hw1]; rfl); (simp only [go_sem, hgc, hgp, hl0, hk0, hi0, hw1]; rfl); trivial)); (iterate 5 (apply e_spec; decide; (simp only [go_sem, hgc, hgp, hl0, hk0, hi0, hw1]; rfl); (simp only [go_sem, hgc, hgp, hl0, hk0, hi0, hw1]; rfl); (simp only [go_sem, hgc, hgp, hl0, hk0, hi0, hw1]; rfl); (simp only [go_sem, hgc, hgp, hl0, hk0, hi0, hw1]; rfl); simp [condsOk])); apply e_pickg; decide; (simp only [go_sem, hgc, hgp, hl0, hk0, hi0, hw1]; rfl); (simp only [go_sem, hgc, hgp, hl0, hk0, hi0, hw1]; rfl); (simp only [go_sem, hgc, hgp, hl0, hk0, hi0, hw1]; rfl); (simp only [go_sem, hgc, hgp, hl0, hk0, hi0, hw1]; rfl); (simp only [go_sem, hgc, hgp, hl0, hk0, hi0, hw1]; rfl); (simp only [go_sem, hgc, hgp, hl0, hk0, hi0, hw1]; rfl); (simp only [go_sem, hgc, hgp, hl0, hk0, hi0, hw1]; rfl); (simp only [go_sem, hgc, hgp, hl0, hk0, hi0, hw1]; rfl); simp [condsOk]; simp [condsOk]; trivial; apply e_pickg; decide; (simp only [go_sem, hgc, hgp, hl0, hk0, hi0, hw1]; rfl); (simp only [go_sem, hgc, hgp, hl0, hk0, hi0, hw1]; rfl); (simp only [go_sem, hgc, hgp, hl0, hk0, hi0, hw1]; rfl); (simp only [go_sem, hgc, hgp, hl0, hk0, hi0, hw1]; rfl); (simp only [go_sem, hgc, hgp, hl0, hk0, hi0, hw1]; rfl); (simp only [go_sem, hgc, hgp, hl0, hk0, hi0, hw1]; rfl); (simp only [go_sem, hgc, hgp, hl0, hk0, hi0, hw1]; rfl); (simp only [go_sem, hgc, hgp, hl0, hk0, hi0, hw1]; rfl); trivial; trivial; simp [condsOk]; apply e_pickg; decide; (simp only [go_sem, hgc, hgp, hl0, hk0, hi0, hw1]; rfl); (simp only [go_sem, hgc, hgp, hl0, hk0, hi0, hw1]; rfl); (simp only [go_sem, hgc, hgp, hl0, hk0, hi0, hw1]; rfl); (simp only [go_sem, hgc, hgp, hl0, hk0, hi0, hw1]; rfl); (simp only [go_sem, hgc, hgp, hl0, hk0, hi0, hw1]; rfl); (simp only [go_sem, hgc, hgp, hl0, hk0, hi0, hw1]; rfl); (simp only [go_sem, hgc, hgp, hl0, hk0, hi0, hw1]; rfl); (simp only [go_sem, hgc, hgp, hl0, hk0, hi0, hw1]; rfl); trivial; trivial; trivial; apply e_pick; decide; (simp only [go_sem, hgc, hgp, hl0, hk0, hi0, hw1]; rfl); (simp only [go_sem, hgc, hgp, hl0, hk0, hi0, hw1]; rfl); (simp only [go_sem, hgc, hgp, hl0, hk0, hi0, hw1]; rfl); (simp only [go_sem, hgc, hgp, hl0, hk0, hi0, hw1]; rfl); (simp only [go_sem, hgc, hgp, hl0, hk0, hi0, hw1]; rfl); (simp only [go_sem, hgc, hgp, hl0, hk0, hi0, hw1]; rfl); trivial; trivial; trivial; apply e_nil; apply t_nil; simp only [AThen, ABlock]; refine hK _ _ ?_; clear hK K)
      refine cond_split (by simp only [go_sem]; try rfl) (fun he => ?_) (fun he => ?_)
      · exfalso
        simp at he
        rcases hah with h1 | ⟨h1, h2⟩
        · rcases he with h3 | ⟨h3, _⟩ <;> omega
        · rcases he with h3 | ⟨h3, h4 | h4⟩
          · omega
          · rw [blt_eq, decide_eq_true_eq] at h4; exact lt_irr _ (lt_tr h2 h4)
          · rw [h4] at h2; exact lt_irr _ h2
      (apply AWp_skip; simp only [AThen, ABlock])
      exact hrest _ rfl
  · have ht1 : (threadL l name).1 ≤ (l.length : Int) := by
      have := List.length_filter_le (isAbout kThread name) (firstL l)
      have h2 := firstL_len l
      simp only [threadL, aboutL]; omega
    have ht2 : (if (if decide (0 < (threadL l name).1) = true then true else decide ((threadL l name).2 = [])) = true then decide ((threadL l name).1 ≤ (l.length : Int)) else false) = true := by
      rw [decide_eq_true ht1]
      by_cases h0 : 0 < (threadL l name).1
      · simp [h0]
      · have hz : aboutL l kThread name = [] := by
          simp only [threadL] at h0
          exact List.length_eq_zero_iff.1 (by omega)
        have : (threadL l name).2 = [] := by simp only [threadL, hz]; rfl
        simp [this]
    (apply AWp_exit; simp only [AThen, ABlock, reduceIte, Nat.reduceEqDiff]; clear hK K; refine hK _ _ ?_; clear hK K; refine AWp_seq_k (fun K hK => ?_); apply s_region; (iterate 2 (apply s_q; decide; rfl; (simp only [go_sem]; rfl))); apply s_call; decide; (simp only [go_sem]; rfl); (simp only [go_sem]; rfl); apply thread_c false l name hl2 hok; apply s_alloc; decide; exact zc_45; intro b hb; apply s_store; (simp only [go_sem]; rfl); (simp only [go_sem]; rfl); (simp only [go_sem]; rfl); apply s_nil; simp only [AThen, ABlock]; refine hK _ _ ?_; clear hK K; refine AWp_seq_k (fun K hK => ?_); apply s_region; (iterate 4 (apply s_q; decide; rfl; (simp only [go_sem]; rfl))); apply s_spec; decide; rfl; rfl; (simp only [go_sem]; rfl); (simp only [go_sem]; rfl); (simp only [go_sem]; rfl); (simp only [go_sem]; rfl); trivial; (iterate 2 (apply s_spec; decide; rfl; rfl; (simp only [go_sem]; rfl); (simp only [go_sem]; rfl); (simp only [go_sem]; rfl); (simp only [go_sem]; rfl); simp [condsOk])); apply s_pick; decide; (simp only [go_sem]; rfl); (simp only [go_sem]; rfl); (simp only [go_sem]; rfl); (simp only [go_sem]; rfl); (simp only [go_sem]; rfl); (simp only [go_sem]; rfl); trivial; trivial; simp [condsOk]; apply s_q; decide; rfl; (simp only [go_sem]; rfl); apply s_spec; decide; rfl; rfl; (simp only [go_sem]; rfl); (simp only [go_sem]; rfl); (simp only [go_sem]; rfl); (simp only [go_sem]; rfl); trivial; apply s_spec; decide; rfl; rfl; (simp only [go_sem]; rfl); (simp only [go_sem]; rfl); (simp only [go_sem]; rfl); (simp only [go_sem]; rfl); simp [condsOk]; apply s_spec; decide; rfl; rfl; (simp only [go_sem]; rfl); (simp only [go_sem]; rfl); (simp only [go_sem]; rfl); (simp only [go_sem]; rfl); trivial; (iterate 2 (apply s_spec; decide; rfl; rfl; (simp only [go_sem]; rfl); (simp only [go_sem]; rfl); (simp only [go_sem]; rfl); (simp only [go_sem]; rfl); simp [condsOk])); apply s_pick; decide; (simp only [go_sem]; rfl); (simp only [go_sem]; rfl); (simp only [go_sem]; rfl); (simp only [go_sem]; rfl); (simp only [go_sem]; rfl); (simp only [go_sem]; rfl); trivial; simp [condsOk]; trivial; apply s_q; decide; rfl; (simp only [go_sem]; rfl); apply s_gpure; decide; (simp only [go_sem]; rfl); (simp only [go_sem]; rfl); (simp only [go_sem]; rfl); trivial; (simp only [go_sem]; rfl); (simp only [go_sem]; rfl); (apply awake_c hS hKy; exact ⟨rfl, rfl⟩); apply s_pick; decide; (simp only [go_sem]; rfl); (simp only [go_sem]; rfl); (simp only [go_sem]; rfl); (simp only [go_sem]; rfl); (simp only [go_sem]; rfl); (simp only [go_sem]; rfl); trivial; simp [condsOk]; trivial; apply s_q; decide; rfl; (simp only [go_sem]; rfl); apply s_nil; simp only [AThen, ABlock]; refine hK _ _ ?_; clear hK K; apply AWp_ret)
    refine ⟨H, Ext.fresh (by assumption), finB h ?_⟩
    rw [ht2]; rfl
end Go.Proofs.Ytmloandpjbimkaa
