/-
  PowerParses: walked. Contract.
-/
import Derived.Test.YtniaafncmnilgaaGreatDoorRK
import Derived.Test.YtniaafncmnilgaaGreatDoorL10D
import Derived.Test.YtniaafncmnilgaaGreatDoorPU
set_option linter.unusedSimpArgs false
set_option linter.unusedVariables false
set_option maxRecDepth 100000
namespace Go.Proofs.YtniaafncmnilgaaGreatDoor
open Go Go.AL
attribute [local irreducible] AOps AWp SOps AE AT ACall AApp

theorem names_len {j : J} (hf : J.Fit j) (k : List UInt8) : (namesR ((jGet j k).map J.ord)).length ≤ 1000000000 := by
  cases ho : jGet j k with
  | none => simp [namesR]
  | some v =>
    have hv := (fit_eq.1 ((fit_eq.1 hf).2.2.2 v (jGet_mem ho))).1
    have hl : v.ord.keys.length ≤ 1000000000 := by
      rw [ord_eq]; split
      · simp only [J.keys, List.length_map, places_len]; exact hv.1
      · simp [J.keys]
    simp only [Option.map_some, namesR, namesL, List.length_map, List.length_zip]
    omega
theorem parse_len {j : J} (hf : J.Fit j) {l : Lv} (h : lvParse j = some l) : l.Len := by
  obtain ⟨h5, hg⟩ := parse_some h
  rw [lvParse_doc h5 hg] at h
  split at h
  · cases h
    exact ⟨names_len hf _, names_len hf _⟩
  · cases h
set_option maxHeartbeats 1000000 in
theorem parses_c (c : J) (H : AHeap) (Kc : AV → AHeap → Prop) (h : Kc (.v (.bool true)) H) : ACall X 3 [.agg c.cells] H Kc := by
  refine ACall.drop ?_
  rw [J.cells_eq]
  refine ACall_intro Tryz.func3 rfl (by kernel_rfl) (by rw [Tryz.ntmps3]; simp) ?_; rw [Tryz.ntmps3]; simp only [frame0, Nat.reduceAdd]
  refine AWp_seq_k (fun K hK => ?_); apply s_region
  apply s_box; decide; exact (by simp only [go_sem]; try rfl); exact (by simp only [go_sem]; try rfl); intro p hp
  (apply s_q; decide; rfl; (simp only [go_sem]; rfl); apply s_nil; simp only [AThen, ABlock]; refine hK _ _ ?_; clear hK K; (iterate 2 (refine AWp_seq_k (fun K hK => ?_))); apply s_region; apply s_q; decide; rfl; (simp only [go_sem]; rfl))
  generalize hgenq : AHeap.put p _ H = M; obtain ⟨g1, hextq⟩ := gen_ex hgenq hp; have hE := hextq; clear hextq hgenq
  (apply s_call; decide; (simp only [go_sem, g1]; rfl); (simp only [go_sem, g1]; rfl); refine ACall.args_eq (bs := [.agg c.cells]) ?_ ?_; (focus (rw [J.cells_eq c]; done)); apply small_c2 c; apply s_q; decide; rfl; (simp only [go_sem, g1]; rfl); apply s_nil; simp only [AThen, ABlock]; refine hK _ _ ?_; clear hK K)
  refine cond_split (by simp only [go_sem]; try rfl) (fun hc => ?_) (fun hc => ?_)
  · (refine AWp_seq_k (fun K hK => ?_); apply s_region; apply s_q; decide; rfl; (simp only [go_sem]; rfl); apply s_nil; simp only [AThen, ABlock]; refine hK _ _ ?_; clear hK K; apply AWp_ret; simp only [AThen, ABlock]; apply end_ret; rfl; simp only [AFr.get, reduceIte, Nat.reduceEqDiff])
    exact ⟨H, hE, h⟩
  have hs : smlB c = true := by simpa using hc
  obtain ⟨f1, f2, f3⟩ := small_fit hs
  obtain ⟨L0, e0, q0, q1, q2⟩ := lvRes_eq (lvParse c)
  have hlen : L0.Len := by
    by_cases h0 : e0 = 0
    · exact parse_len f1 (q1 h0)
    · obtain ⟨_, rfl⟩ := q2 h0
      simp [Lv.Len, lv0]
  have hP : ∀ (H : AHeap) (K : AV → AHeap → Prop), K (.tup [.agg L0.cells, .v (.int .i64 e0)]) H → ACall X 6 [.agg c.cells] H K := fun H K hk => parse_c c f1 ⟨fun k hk => by have := f2 k hk; omega, fun x hx k hk => by have := f3 x hx k hk; omega⟩ H K (by rw [q0]; exact hk)
  have hR : ∀ (H : AHeap) (K : AV → AHeap → Prop), K (.tup [.agg L0.cells, .v (.int .i64 e0)]) H → ACall X 7 [.agg c.cells] H K := fun H K hk => rparse_c c f1 H K (by rw [q0]; exact hk)
  have hS : ∀ (H : AHeap) (K : AV → AHeap → Prop), K (.v (.bool true)) H → ACall X 8 [.agg L0.cells, .agg L0.cells] H K := fun H K hk => rSameSelf_c L0 hlen H K hk
  (apply AWp_skip; simp only [AThen, ABlock]; refine hK _ _ ?_; clear hK K; refine AWp_seq_k (fun K hK => ?_); apply s_region; apply s_q; decide; rfl; (simp only [go_sem, g1]; rfl); apply s_call; decide; (simp only [go_sem, g1]; rfl); (simp only [go_sem, g1]; rfl); refine ACall.args_eq (bs := [.agg c.cells]) ?_ ?_; (focus (rw [J.cells_eq c]; done)); apply hP; (iterate 3 (apply s_q; decide; rfl; (simp only [go_sem, g1]; rfl))); apply s_alloc; decide; exact zc_29; intro b hb; apply s_store; (simp only [go_sem, g1]; rfl); (simp only [go_sem, g1]; rfl); (simp only [go_sem, g1]; rfl); apply s_q; decide; rfl; (simp only [go_sem, g1]; rfl); apply s_nil; simp only [AThen, ABlock]; refine hK _ _ ?_; clear hK K; refine AWp_seq_k (fun K hK => ?_); apply s_region)
  obtain ⟨p3, hnewq⟩ : ∃ q, q = b := ⟨_, rfl⟩; have hp3 := hb; rw [← hnewq] at hp3 ⊢; clear hb hnewq; try clear he; clear b
  generalize hgenq : AHeap.put p3 _ M = M3; obtain ⟨g3, hextq⟩ := gen_ex hgenq hp3; have g1 := hextq _ _ g1; have hE := Ext.trans hE hextq; clear hextq hgenq
  (apply s_q; decide; rfl; (simp only [go_sem, g1]; rfl); apply s_call; decide; (simp only [go_sem, g1]; rfl); (simp only [go_sem, g1]; rfl); refine ACall.args_eq (bs := [.agg c.cells]) ?_ ?_; (focus (rw [J.cells_eq c]; done)); apply hR; (iterate 3 (apply s_q; decide; rfl; (simp only [go_sem, g1]; rfl))); apply s_alloc; decide; exact zc_29; intro b hb; apply s_store; (simp only [go_sem, g1]; rfl); (simp only [go_sem, g1]; rfl); (simp only [go_sem, g1]; rfl); apply s_q; decide; rfl; (simp only [go_sem, g1]; rfl); apply s_nil; simp only [AThen, ABlock]; refine hK _ _ ?_; clear hK K; refine AWp_seq_k (fun K hK => ?_); apply s_region)
  obtain ⟨p5, hnewq⟩ : ∃ q, q = b := ⟨_, rfl⟩; have hp5 := hb; rw [← hnewq] at hp5 ⊢; clear hb hnewq; try clear he; clear b
  generalize hgenq : AHeap.put p5 _ M3 = M5; obtain ⟨g5, hextq⟩ := gen_ex hgenq hp5; have g1 := hextq _ _ g1; have g3 := hextq _ _ g3; have hE := Ext.trans hE hextq; clear hextq hgenq
  ((iterate 2 (apply s_q; decide; rfl; (simp only [go_sem, g3, g5]; rfl))); apply s_call; decide; (simp only [go_sem, g3, g5]; rfl); (simp only [go_sem, g3, g5]; rfl); apply hS; apply s_q; decide; rfl; (simp only [go_sem, g3, g5]; rfl); (iterate 3 (apply s_spec; decide; rfl; rfl; (simp only [go_sem, g3, g5]; rfl); (simp only [go_sem, g3, g5]; rfl); (simp only [go_sem, g3, g5]; rfl); (simp only [go_sem, g3, g5]; rfl); trivial)); apply s_pick; decide; (simp only [go_sem, g3, g5]; rfl); (simp only [go_sem, g3, g5]; rfl); (simp only [go_sem, g3, g5]; rfl); (simp only [go_sem, g3, g5]; rfl); (simp only [go_sem, g3, g5]; rfl); (simp only [go_sem, g3, g5]; rfl); trivial; trivial; trivial; apply s_q; decide; rfl; (simp only [go_sem, g3, g5]; rfl); apply s_gpure; decide; (simp only [go_sem, g3, g5]; rfl); (simp only [go_sem, g3, g5]; rfl); (simp only [go_sem, g3, g5]; rfl); trivial; (simp only [go_sem, g3, g5]; rfl); (simp only [go_sem, g3, g5]; rfl); (apply awake_c; exact ⟨rfl, rfl⟩); apply s_pick; decide; (simp only [go_sem, g3, g5]; rfl); (simp only [go_sem, g3, g5]; rfl); (simp only [go_sem, g3, g5]; rfl); (simp only [go_sem, g3, g5]; rfl); (simp only [go_sem, g3, g5]; rfl); (simp only [go_sem, g3, g5]; rfl); trivial; trivial; trivial; apply s_q; decide; rfl; (simp only [go_sem, g3, g5]; rfl); apply s_nil; simp only [AThen, ABlock]; refine hK _ _ ?_; clear hK K; apply AWp_ret)
  refine end_ret (av := .v (.bool true)) (by show resAV X.P _ _ [.tmp 2] = _; simp [go_sem]; try rfl) ⟨H, hE, h⟩
end Go.Proofs.YtniaafncmnilgaaGreatDoor
