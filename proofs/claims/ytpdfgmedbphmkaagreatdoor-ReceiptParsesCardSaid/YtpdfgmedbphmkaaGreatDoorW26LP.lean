/-
  ReceiptParses: walked. Contract.
-/
import Derived.Test.YtpdfgmedbphmkaaGreatDoorW26Z
import Derived.Test.YtpdfgmedbphmkaaGreatDoorW26LE
import Derived.Test.YtpdfgmedbphmkaaGreatDoorW26I
set_option linter.unusedSimpArgs false
set_option linter.unusedVariables false
set_option maxRecDepth 100000
namespace Go.Proofs.YtpdfgmedbphmkaaGreatDoor
open Go Go.AL
attribute [local irreducible] AOps AWp SOps AE AT ACall AApp

theorem fold_allE (d : Nat) : ∀ (l : List J) (m : Int), 0 ≤ l.foldl (fun n x => if 0 ≤ n then leftI d x n else n) m → ∀ x ∈ l, ∃ m', 0 ≤ leftI d x m'
  | [], m, h, x, hx => by cases hx
  | y :: l, m, h, x, hx => by
    rw [List.foldl_cons] at h
    by_cases hm : 0 ≤ m
    · rw [if_pos hm] at h
      rcases List.mem_cons.1 hx with rfl | hx
      · refine ⟨m, ?_⟩
        by_cases h1 : 0 ≤ leftI d x m
        · exact h1
        · rw [fold_neg d l _ h1] at h; exact absurd h h1
      · exact fold_allE d l _ h x hx
    · rw [if_neg hm, fold_neg d l _ hm] at h
      exact absurd h hm
theorem left_fitE : ∀ (d : Nat) (j : J) (n : Int), 0 ≤ leftI d j n → J.Fit j ∧ ∀ k ∈ j.keys, k.length ≤ 200 := fun d => by
  induction d with
  | zero => intro j n h; simp [leftI] at h
  | succ d ih =>
    intro j n h
    rw [leftI] at h
    split at h
    · omega
    split at h
    · omega
    rename_i h1 h2
    have hk : ∀ k ∈ j.keys, k.length ≤ 200 := fun k hk => by
      rw [Bool.not_eq_true, List.any_eq_false] at h2
      have := h2 k hk
      simp at this; omega
    have hx := fold_allE d j.list _ h
    refine ⟨fit_eq.2 ⟨⟨by omega, by omega⟩, by omega, fun k hkm => by have := hk k hkm; omega, fun x hxm => ?_⟩, hk⟩
    obtain ⟨m, hm⟩ := hx x hxm
    exact (ih x m hm).1
theorem rec_bd {c : J} (hk : ∀ k ∈ c.keys, k.length ≤ 200) (hkl : c.keys.length ≤ 60) {ms : List (List UInt8 × Mark)} (h : recParse c = some ms) (hc : contentJ (allOf ms) = c.ord) : Bd ms ∧ c.ord.Len := by
  have h0 := h
  rw [recParse] at h
  split at h
  rotate_left
  · cases h
  rename_i h5
  split at h
  rotate_left
  · cases h
  have hms : ∃ M, ms = boardOf M := ⟨_, ((recFold_iff _ _ _).1 h).2⟩
  obtain ⟨M, hM⟩ := hms
  have hu : (allOf ms).map Mark.user = c.ord.keys := by rw [← hc]; rfl
  have hp : c.ord.keys.Perm c.keys := by rw [ord_keys5 h5]; exact ord_perm c.keys
  have hl : ms.length ≤ 60 := by
    rw [← allOf_len, ← List.length_map (f := Mark.user), hu, hp.length_eq]; exact hkl
  refine ⟨⟨by omega, fun x hx => ?_⟩, ?_⟩
  · have h1 : x.1 ∈ c.keys := by
      have h2 : x.1 ∈ sortL (ms.map (·.1)) := (sortL_perm _).mem_iff.2 (List.mem_map.2 ⟨x, hx, rfl⟩)
      rw [← allOf_user (by rw [hM]; exact own_board M), hu] at h2
      exact hp.mem_iff.1 h2
    have := hk _ h1
    omega
  · rw [← hc]
    refine J.len_eq.2 ⟨by simp [contentJ, J.keys, allOf_len]; omega, by simp [contentJ, J.list, allOf_len]; omega, fun y hy => ?_⟩
    simp only [contentJ, J.list, List.mem_map] at hy
    obtain ⟨m, _, rfl⟩ := hy
    refine J.len_eq.2 ⟨by simp [markJ, J.keys], by simp [markJ, J.list], fun y hy => ?_⟩
    simp only [markJ, J.list, List.mem_cons, List.not_mem_nil, or_false] at hy
    rcases hy with rfl | rfl <;> exact J.len_eq.2 ⟨by simp [numJ, J.keys], by simp [numJ, J.list], fun y hy => by simp [numJ, J.list] at hy⟩
set_option maxHeartbeats 4000000 in
theorem rparses_c (c : J) (H : AHeap) (Kc : AV → AHeap → Prop) (h : Kc (.v (.bool true)) H) : ACall X 3 [.agg c.cells] H Kc := by
  refine ACall.drop ?_
  rw [J.cells_eq]
  refine ACall_intro Tryz.func3 rfl (by kernel_rfl) (by rw [Tryz.ntmps3]; simp) ?_; rw [Tryz.ntmps3]; simp only [frame0, Nat.reduceAdd]
  refine AWp_seq_k (fun K hK => ?_); apply s_region
  apply s_box; decide; exact (by simp only [go_sem]; try rfl); exact (by simp only [go_sem]; try rfl); intro p1 hp1
  (apply s_q; decide; rfl; (simp only [go_sem]; rfl); apply s_nil; simp only [AThen, ABlock]; refine hK _ _ ?_; clear hK K; (iterate 2 (refine AWp_seq_k (fun K hK => ?_))); apply s_region; apply s_q; decide; rfl; (simp only [go_sem]; rfl))
  generalize hgenq : AHeap.put p1 _ H = M; obtain ⟨g1, hextq⟩ := gen_ex hgenq hp1; have hE := hextq; clear hextq hgenq
  have hLf : ∀ (H : AHeap) (K : AV → AHeap → Prop), K (.v (.int .i64 (leftI 20 c 500))) H → ACall X 4 [.agg c.cells, .v (.int .i64 500), .v (.int .i64 20)] H K := fun H K hk => left_c 20 (by decide) c 500 (by decide) (by decide) H K hk
  (apply s_call; decide; (simp only [go_sem, g1]; rfl); (simp only [go_sem, g1]; rfl); refine ACall.args_eq (bs := [.agg c.cells, .v (.int .i64 500), .v (.int .i64 20)]) ?_ ?_; (focus (rw [J.cells_eq c]; done)); apply hLf; (iterate 2 (apply s_q; decide; rfl; (simp only [go_sem, g1]; rfl))); apply s_spec; decide; rfl; rfl; (simp only [go_sem, g1]; rfl); (simp only [go_sem, g1]; rfl); (simp only [go_sem, g1]; rfl); (simp only [go_sem, g1]; rfl); trivial; (iterate 3 (apply s_spec; decide; rfl; rfl; (simp only [go_sem, g1]; rfl); (simp only [go_sem, g1]; rfl); (simp only [go_sem, g1]; rfl); (simp only [go_sem, g1]; rfl); simp [condsOk])); apply s_pick; decide; (simp only [go_sem, g1]; rfl); (simp only [go_sem, g1]; rfl); (simp only [go_sem, g1]; rfl); (simp only [go_sem, g1]; rfl); (simp only [go_sem, g1]; rfl); (simp only [go_sem, g1]; rfl); trivial; trivial; simp [condsOk]; apply s_nil; simp only [AThen, ABlock]; refine hK _ _ ?_; clear hK K)
  refine cond_split (by simp only [go_sem]; try rfl) (fun hc => ?_) (fun hc => ?_)
  · (refine AWp_seq_k (fun K hK => ?_); apply s_region; apply s_q; decide; rfl; (simp only [go_sem]; rfl); apply s_nil; simp only [AThen, ABlock]; refine hK _ _ ?_; clear hK K; apply AWp_ret; simp only [AThen, ABlock]; apply end_ret; rfl; simp only [AFr.get, reduceIte, Nat.reduceEqDiff])
    exact ⟨H, hE, h⟩
  have hc' : 0 ≤ leftI 20 c 500 ∧ c.keys.length ≤ 60 := by
    by_cases h0 : leftI 20 c 500 < 0
    · simp [h0] at hc
    · simp [h0] at hc; omega
  obtain ⟨hl, hkl⟩ := hc'
  obtain ⟨hf, hk⟩ := left_fitE 20 c 500 hl
  cases hr : recParse c with
  | none =>
    have hr2 : refParse c = none := by
      cases h2 : refParse c with
      | none => rfl
      | some ms => obtain ⟨ms', h3⟩ := parse_ref h2; rw [hr] at h3; cases h3
    have hA : ∀ (H : AHeap) (K : AV → AHeap → Prop), K (.tup [.v (.pointer none), .v (.int .i64 1)]) H → ACall X 5 [.agg c.cells] H K := fun H K hk2 => parseB_c c hf hk H K (fun _ => hk2) (fun ms hms => by rw [hr] at hms; cases hms)
    have hB : ∀ (H : AHeap) (K : AV → AHeap → Prop), K (.tup [.v (.pointer none), .v (.int .i64 1)]) H → ACall X 6 [.agg c.cells] H K := fun H K hk2 => parseR_c c hf hkl hk H K (fun _ => hk2) (fun ms hms => by rw [hr2] at hms; cases hms)
    (apply AWp_skip; simp only [AThen, ABlock]; refine hK _ _ ?_; clear hK K; refine AWp_seq_k (fun K hK => ?_); apply s_region; apply s_q; decide; rfl; (simp only [go_sem, g1]; rfl); apply s_call; decide; (simp only [go_sem, g1]; rfl); (simp only [go_sem, g1]; rfl); refine ACall.args_eq (bs := [.agg c.cells]) ?_ ?_; (focus (rw [J.cells_eq c]; done)); apply hA; (iterate 5 (apply s_q; decide; rfl; (simp only [go_sem, g1]; rfl))); apply s_nil; simp only [AThen, ABlock]; refine hK _ _ ?_; clear hK K; refine AWp_seq_k (fun K hK => ?_); apply s_region; apply s_q; decide; rfl; (simp only [go_sem, g1]; rfl); apply s_call; decide; (simp only [go_sem, g1]; rfl); (simp only [go_sem, g1]; rfl); refine ACall.args_eq (bs := [.agg c.cells]) ?_ ?_; (focus (rw [J.cells_eq c]; done)); apply hB; (iterate 5 (apply s_q; decide; rfl; (simp only [go_sem, g1]; rfl))); apply s_nil; simp only [AThen, ABlock]; refine hK _ _ ?_; clear hK K; (iterate 2 (refine AWp_seq_k (fun K hK => ?_))); apply s_region; (iterate 4 (apply s_q; decide; rfl; (simp only [go_sem, g1]; rfl))); (iterate 5 (apply s_spec; decide; rfl; rfl; (simp only [go_sem, g1]; rfl); (simp only [go_sem, g1]; rfl); (simp only [go_sem, g1]; rfl); (simp only [go_sem, g1]; rfl); trivial)); apply s_pick; decide; (simp only [go_sem, g1]; rfl); (simp only [go_sem, g1]; rfl); (simp only [go_sem, g1]; rfl); (simp only [go_sem, g1]; rfl); (simp only [go_sem, g1]; rfl); (simp only [go_sem, g1]; rfl); trivial; trivial; trivial; apply s_nil; simp only [AThen, ABlock]; refine hK _ _ ?_; clear hK K)
    refine cond_split (by simp only [go_sem]; try rfl) (fun hd => ?_) (fun hd => ?_)
    · simp at hd
    (apply AWp_skip; simp only [AThen, ABlock]; refine hK _ _ ?_; clear hK K; refine AWp_seq_k (fun K hK => ?_))
    apply AWp_drawA [0, 1, 2, 3, 4, 5, 6, 7, 8, 9, 10, 11, 12, 13, 14, 15, 16, 17, 18, 19, 20, 21] [] 0 (by exact mixed); kernel_rfl; (simp only [go_sem]; rfl); (simp only [go_sem]; rfl)
    ((iterate 3 (apply e_q; decide; (simp only [go_sem]; rfl))); apply e_spec; decide; (simp only [go_sem]; rfl); (simp only [go_sem]; rfl); (simp only [go_sem]; rfl); (simp only [go_sem]; rfl); trivial; apply e_when (av := (.v (.bool false))); decide; (simp only [go_sem]; rfl); (simp only [go_sem]; rfl); (simp only [go_sem]; rfl); trivial; (focus (intro hg; first | (cases hg; done) | (simp at hg; done))); apply e_spec; decide; (simp only [go_sem]; rfl); (simp only [go_sem]; rfl); (simp only [go_sem]; rfl); (simp only [go_sem]; rfl); trivial; (iterate 4 (apply e_when (av := (.v (.bool false))); decide; (simp only [go_sem]; rfl); (simp only [go_sem]; rfl); (simp only [go_sem]; rfl); trivial; (focus (intro hg; first | (cases hg; done) | (simp at hg; done))))); (iterate 2 (apply e_spec; decide; (simp only [go_sem]; rfl); (simp only [go_sem]; rfl); (simp only [go_sem]; rfl); (simp only [go_sem]; rfl); trivial)); (iterate 4 (apply e_when (av := (.v (.bool false))); decide; (simp only [go_sem]; rfl); (simp only [go_sem]; rfl); (simp only [go_sem]; rfl); trivial; (focus (intro hg; first | (cases hg; done) | (simp at hg; done))))); apply e_pickg; decide; (simp only [go_sem]; rfl); (simp only [go_sem]; rfl); (simp only [go_sem]; rfl); (simp only [go_sem]; rfl); (simp only [go_sem]; rfl); (simp only [go_sem]; rfl); (simp only [go_sem]; rfl); (simp only [go_sem]; rfl); trivial; trivial; trivial; apply e_pick; decide; (simp only [go_sem]; rfl); (simp only [go_sem]; rfl); (simp only [go_sem]; rfl); (simp only [go_sem]; rfl); (simp only [go_sem]; rfl); (simp only [go_sem]; rfl); trivial; trivial; trivial; apply e_q; decide; (simp only [go_sem]; rfl); apply e_gpure; decide; (simp only [go_sem]; rfl); (simp only [go_sem]; rfl); (simp only [go_sem]; rfl); trivial; (simp only [go_sem]; rfl); (simp only [go_sem]; rfl); (apply awake_c; exact ⟨rfl, rfl⟩); apply e_pick; decide; (simp only [go_sem]; rfl); (simp only [go_sem]; rfl); (simp only [go_sem]; rfl); (simp only [go_sem]; rfl); (simp only [go_sem]; rfl); (simp only [go_sem]; rfl); trivial; trivial; trivial; apply e_q; decide; (simp only [go_sem]; rfl); apply e_nil; apply t_nil; simp only [AThen, ABlock]; refine hK _ _ ?_; clear hK K; apply AWp_ret)
    refine end_ret (av := .v (.bool true)) (by show resAV X.P _ _ [.tmp 2] = _; simp [go_sem]) ⟨H, hE, h⟩
  | some ms =>
    obtain ⟨ms', h2, h3, h4⟩ := parse_rec hf hr
    obtain ⟨hbd, hcl⟩ := rec_bd hk hkl hr h4
    have hg : goodB 12 c = true := by
      rw [recParse] at hr
      split at hr
      rotate_left
      · cases hr
      split at hr
      rotate_left
      · cases hr
      assumption
    have hA : ∀ (H : AHeap) (K : AV → AHeap → Prop), (∀ p q L, H.get p = none → H.get q = none → IsBoard L p q ms → Ext H L → K (.tup [ptrTo p, .v (.int .i64 0)]) L) → ACall X 5 [.agg c.cells] H K := fun H K hk2 => parseB_c c hf hk H K (fun hn => by rw [hr] at hn; cases hn) (fun m hm p q L hp hq hB hE => by rw [hr] at hm; cases hm; exact hk2 p q L hp hq hB hE)
    have hB : ∀ (H : AHeap) (K : AV → AHeap → Prop), (∀ p tb L, H.get p = none → RB L p tb (allOf ms) → Ext H L → K (.tup [ptrTo p, .v (.int .i64 0)]) L) → ACall X 6 [.agg c.cells] H K := fun H K hk2 => parseR_c c hf hkl hk H K (fun hn => by rw [h2] at hn; cases hn) (fun m hm p tb L hp hB hE => by rw [h2] at hm; cases hm; rw [h3] at hB; exact hk2 p tb L hp hB hE)
    have hOrd : ∀ (H : AHeap) (K : AV → AHeap → Prop), K (.agg c.ord.cells) H → ACall X 11 [.agg c.cells] H K := fun H K hk => rOrder_c c hf (by rw [if_pos hg]; exact hk)
    have hSame : ∀ (H : AHeap) (K : AV → AHeap → Prop), K (.v (.bool true)) H → ACall X 9 [.agg c.ord.cells, .agg c.ord.cells] H K := fun H K hk => jsame_c _ _ _ H K (Nat.le_refl _) hcl (by rw [J.same_refl]; exact hk)
    have hEq : ∀ (t1 t2 : Bool) (H : AHeap) (K : AV → AHeap → Prop), K (.v (.bool true)) H → ACall X 7 [.sl t1 ((allOf ms).map Mark.cells), .sl t2 ((allOf ms).map Mark.cells)] H K := fun t1 t2 H K hk => same_c t1 t2 _ _ (by rw [allOf_len]; exact hbd.1) H K (by simpa using hk)
    (apply AWp_skip; simp only [AThen, ABlock]; refine hK _ _ ?_; clear hK K; refine AWp_seq_k (fun K hK => ?_); apply s_region; apply s_q; decide; rfl; (simp only [go_sem, g1]; rfl); apply s_call; decide; (simp only [go_sem, g1]; rfl); (simp only [go_sem, g1]; rfl); refine ACall.args_eq (bs := [.agg c.cells]) ?_ ?_; (focus (rw [J.cells_eq c]; done)); apply hA; intro p q L hp hq hBo hEL; (iterate 5 (apply s_q; decide; rfl; (simp only [go_sem, g1]; rfl))); apply s_nil; simp only [AThen, ABlock]; refine hK _ _ ?_; clear hK K; refine AWp_seq_k (fun K hK => ?_); apply s_region)
    have g1L := hEL _ _ g1
    (apply s_q; decide; rfl; (simp only [go_sem, g1L]; rfl); apply s_call; decide; (simp only [go_sem, g1L]; rfl); (simp only [go_sem, g1L]; rfl); refine ACall.args_eq (bs := [.agg c.cells]) ?_ ?_; (focus (rw [J.cells_eq c]; done)); apply hB; intro p' tb L2 hp' hRB hEL2; (iterate 5 (apply s_q; decide; rfl; (simp only [go_sem, g1L]; rfl))); apply s_nil; simp only [AThen, ABlock]; refine hK _ _ ?_; clear hK K; (iterate 2 (refine AWp_seq_k (fun K hK => ?_))); apply s_region; (iterate 4 (apply s_q; decide; rfl; (simp only [go_sem, g1L]; rfl))); (iterate 5 (apply s_spec; decide; rfl; rfl; (simp only [go_sem, g1L]; rfl); (simp only [go_sem, g1L]; rfl); (simp only [go_sem, g1L]; rfl); (simp only [go_sem, g1L]; rfl); trivial)); apply s_pick; decide; (simp only [go_sem, g1L]; rfl); (simp only [go_sem, g1L]; rfl); (simp only [go_sem, g1L]; rfl); (simp only [go_sem, g1L]; rfl); (simp only [go_sem, g1L]; rfl); (simp only [go_sem, g1L]; rfl); trivial; trivial; trivial; apply s_nil; simp only [AThen, ABlock]; refine hK _ _ ?_; clear hK K)
    have g1L2 := hEL2 _ _ g1L
    have hBo2 := hBo.ext hEL2
    refine cond_split (by simp only [go_sem]; try rfl) (fun hd => ?_) (fun hd => ?_)
    · simp at hd
    have hAll : ∀ (K : AV → AHeap → Prop), K (.sl false ((allOf ms).map Mark.cells)) L2 → ACall X 8 [ptrTo p] L2 K := fun K hk => all_c p q ms hbd _ hBo2 K hk
    have hCon : ∀ (K : AV → AHeap → Prop), K (.agg c.ord.cells) L2 → ACall X 10 [ptrTo p] L2 K := fun K hk => content_c p q ms hbd _ hBo2 K (by rw [h4]; exact hk)
    have hRB2 : L2.get p' = some (.box 38 [.sl tb ((allOf ms).map Mark.cells)]) := hRB
    (apply AWp_skip; simp only [AThen, ABlock]; refine hK _ _ ?_; clear hK K; refine AWp_seq_k (fun K hK => ?_))
    apply AWp_drawA [0, 1, 2, 3, 4, 5, 6, 7, 8, 9, 10, 11, 12, 13, 14, 15, 16, 17, 18, 19, 20, 21] [] 0 (by exact mixed); kernel_rfl; (simp only [go_sem]; rfl); (simp only [go_sem]; rfl)
    ((iterate 3 (apply e_q; decide; (simp only [go_sem, g1L2, hRB2]; rfl))); apply e_spec; decide; (simp only [go_sem, g1L2, hRB2]; rfl); (simp only [go_sem, g1L2, hRB2]; rfl); (simp only [go_sem, g1L2, hRB2]; rfl); (simp only [go_sem, g1L2, hRB2]; rfl); trivial; apply e_gpure; decide; (simp only [go_sem, g1L2, hRB2]; rfl); (simp only [go_sem, g1L2, hRB2]; rfl); (simp only [go_sem, g1L2, hRB2]; rfl); trivial; (simp only [go_sem, g1L2, hRB2]; rfl); (simp only [go_sem, g1L2, hRB2]; rfl); (apply hAll; exact ⟨rfl, rfl⟩); (iterate 4 (apply e_spec; decide; (simp only [go_sem, g1L2, hRB2]; rfl); (simp only [go_sem, g1L2, hRB2]; rfl); (simp only [go_sem, g1L2, hRB2]; rfl); (simp only [go_sem, g1L2, hRB2]; rfl); trivial)); apply e_gpure; decide; (simp only [go_sem, g1L2, hRB2]; rfl); (simp only [go_sem, g1L2, hRB2]; rfl); (simp only [go_sem, g1L2, hRB2]; rfl); trivial; (simp only [go_sem, g1L2, hRB2]; rfl); (simp only [go_sem, g1L2, hRB2]; rfl); (apply hEq; exact ⟨rfl, rfl⟩); (iterate 2 (apply e_spec; decide; (simp only [go_sem, g1L2, hRB2]; rfl); (simp only [go_sem, g1L2, hRB2]; rfl); (simp only [go_sem, g1L2, hRB2]; rfl); (simp only [go_sem, g1L2, hRB2]; rfl); trivial)); apply e_gpure; decide; (simp only [go_sem, g1L2, hRB2]; rfl); (simp only [go_sem, g1L2, hRB2]; rfl); (simp only [go_sem, g1L2, hRB2]; rfl); trivial; (simp only [go_sem, g1L2, hRB2]; rfl); (simp only [go_sem, g1L2, hRB2]; rfl); (apply hCon; exact ⟨rfl, rfl⟩); apply e_spec; decide; (simp only [go_sem, g1L2, hRB2]; rfl); (simp only [go_sem, g1L2, hRB2]; rfl); (simp only [go_sem, g1L2, hRB2]; rfl); (simp only [go_sem, g1L2, hRB2]; rfl); trivial; apply e_gpure; decide; (simp only [go_sem, g1L2, hRB2]; rfl); (simp only [go_sem, g1L2, hRB2]; rfl); (simp only [go_sem, g1L2, hRB2]; rfl); trivial; (simp only [go_sem, g1L2, hRB2]; rfl); (simp only [go_sem, g1L2, hRB2]; rfl); (refine ACall.args_eq (bs := [.agg c.cells]) ?_ ?_; (focus (rw [J.cells_eq c]; done)); apply hOrd; exact ⟨rfl, rfl⟩); apply e_gpure; decide; (simp only [go_sem, g1L2, hRB2]; rfl); (simp only [go_sem, g1L2, hRB2]; rfl); (simp only [go_sem, g1L2, hRB2]; rfl); trivial; (simp only [go_sem, g1L2, hRB2]; rfl); (simp only [go_sem, g1L2, hRB2]; rfl); (apply hSame; exact ⟨rfl, rfl⟩); apply e_pickg; decide; (simp only [go_sem, g1L2, hRB2]; rfl); (simp only [go_sem, g1L2, hRB2]; rfl); (simp only [go_sem, g1L2, hRB2]; rfl); (simp only [go_sem, g1L2, hRB2]; rfl); (simp only [go_sem, g1L2, hRB2]; rfl); (simp only [go_sem, g1L2, hRB2]; rfl); (simp only [go_sem, g1L2, hRB2]; rfl); (simp only [go_sem, g1L2, hRB2]; rfl); trivial; trivial; trivial; apply e_pick; decide; (simp only [go_sem, g1L2, hRB2]; rfl); (simp only [go_sem, g1L2, hRB2]; rfl); (simp only [go_sem, g1L2, hRB2]; rfl); (simp only [go_sem, g1L2, hRB2]; rfl); (simp only [go_sem, g1L2, hRB2]; rfl); (simp only [go_sem, g1L2, hRB2]; rfl); trivial; trivial; trivial; apply e_q; decide; (simp only [go_sem, g1L2, hRB2]; rfl); apply e_gpure; decide; (simp only [go_sem, g1L2, hRB2]; rfl); (simp only [go_sem, g1L2, hRB2]; rfl); (simp only [go_sem, g1L2, hRB2]; rfl); trivial; (simp only [go_sem, g1L2, hRB2]; rfl); (simp only [go_sem, g1L2, hRB2]; rfl); (apply awake_c; exact ⟨rfl, rfl⟩); apply e_pick; decide; (simp only [go_sem, g1L2, hRB2]; rfl); (simp only [go_sem, g1L2, hRB2]; rfl); (simp only [go_sem, g1L2, hRB2]; rfl); (simp only [go_sem, g1L2, hRB2]; rfl); (simp only [go_sem, g1L2, hRB2]; rfl); (simp only [go_sem, g1L2, hRB2]; rfl); trivial; trivial; trivial; apply e_q; decide; (simp only [go_sem, g1L2, hRB2]; rfl); apply e_nil; apply t_nil; simp only [AThen, ABlock]; refine hK _ _ ?_; clear hK K; apply AWp_ret)
    refine end_ret (av := .v (.bool true)) (by show resAV X.P _ _ [.tmp 2] = _; simp [go_sem]) ⟨H, fun _ _ hx => hEL2 _ _ (hEL _ _ (hE _ _ hx)), h⟩
end Go.Proofs.YtpdfgmedbphmkaaGreatDoor
