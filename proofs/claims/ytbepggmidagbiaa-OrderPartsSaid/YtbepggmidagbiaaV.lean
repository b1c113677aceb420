/-
  What the document picks of the union.
-/
import Derived.Test.YtbepggmidagbiaaU
set_option linter.unusedSimpArgs false
set_option linter.unusedVariables false
set_option maxRecDepth 100000
namespace Go.Proofs.Ytbepggmidagbiaa
open Go Go.AL
attribute [local irreducible] AOps AWp SOps AE AT ACall AApp

theorem unionF_len (rows : List (List Int)) : ∀ (f : Nat) (c : Option Int), (unionF rows f c).length ≤ f
  | 0, _ => by simp [unionF]
  | _ + 1, none => by simp [unionF]
  | f + 1, some n => by have := unionF_len rows f (leastL n false rows); simp [unionF]; omega
def everyB (rows : List (List Int)) (n : Int) : Bool := rows.all fun r => decide (n ∈ r)
def pickedL (rows : List (List Int)) (all : Bool) : List Int := (refU rows).filter fun n => everyB rows n == all
theorem beq_bool (a b : Bool) : (a == b) = decide (a = b) := by cases a <;> cases b <;> rfl
theorem picked_c (t : Bool) (rows : List (List Int)) (all : Bool) (hl : rows.length ≤ 1000) (hk : ∀ r ∈ rows, r.length ≤ 1000) (hf : rows.flatten.length ≤ 1000000) (H : AHeap) (Kc : AV → AHeap → Prop) (h : Kc (.sl false ((pickedL rows all).map intCells)) H) : ACall X 35 [.sl t (rows.map rowCells), .v (.bool all)] H Kc := by
  have hul : (refU rows).length ≤ 1000001 := Nat.le_trans (unionF_len _ _ _) (by omega)
  obtain ⟨u, hu⟩ : ∃ u, refU rows = u := ⟨_, rfl⟩
  rw [pickedL, hu] at h
  rw [hu] at hul
  refine ACall.gr (e := 3) (sz := 1) h ?_
  clear h
  refine ACall_intro Try.func35 rfl (by kernel_rfl) (by rw [Try.ntmps35]; simp) ?_; rw [Try.ntmps35]; simp only [frame0, Nat.reduceAdd]
  (repeat' (first | (refine AWp_seq_k (fun K hK => ?_)) | (apply s_region) | (apply s_q; (first | decide | (dsimp only; decide)); rfl; (solve | (simp only [go_sem]; try rfl))) | (apply s_nil; try simp only [AThen, ABlock]; try (first | (refine hK _ _ ?_; clear hK K) | (clear hK K; refine hK _ _ ?_; clear hK K) | (clear hK K; clear hK K; refine hK _ _ ?_; clear hK K))) | (apply AWp_block) | (apply AWp_skip; try simp only [AThen, ABlock]; try (first | (refine hK _ _ ?_; clear hK K) | (clear hK K; refine hK _ _ ?_; clear hK K) | (clear hK K; clear hK K; refine hK _ _ ?_; clear hK K))) | (apply AWp_exit; simp only [AThen, ABlock, reduceIte, Nat.reduceEqDiff]; try (first | (refine hK _ _ ?_; clear hK K) | (clear hK K; refine hK _ _ ?_; clear hK K) | (clear hK K; clear hK K; refine hK _ _ ?_; clear hK K))) | (apply AWp_ret; try simp only [AThen, ABlock]; apply end_ret; rfl; try simp only [AFr.get, reduceIte, Nat.reduceEqDiff]) | (apply s_lit; (first | decide | (dsimp only; decide)); exact el_25; (solve | (simp only [go_sem]; try rfl)); (solve | (simp only [go_sem]; try rfl)); decide) | (apply s_call; (first | decide | (dsimp only; decide)); (solve | (simp only [go_sem]; try rfl)); (solve | (simp only [go_sem]; try rfl)); apply refUnion_c t rows hl hk hf)))
  rw [hu]
  refine AWp_loop_s (σ := Nat × AV × AHeap) [0, 1, 5, 6, 7] (fun s => [.sl t (rows.map rowCells), .v (.bool all), .sl false (u.map intCells), s.2.1, .v (.int .i64 s.1)]) (fun s => s.2.2) (fun s => u.length - s.1)
    (fun s => s.1 ≤ u.length ∧ Gr 3 1 H (((u.take s.1).filter fun n => everyB rows n == all).map intCells) s.2.1 s.2.2) (0, .sl true [], H) ⟨Nat.zero_le _, Gr.nil _ _ _⟩ rfl rfl (fun s hs => ?_)
  obtain ⟨i, a, L⟩ := s
  obtain ⟨hi, hG⟩ := hs
  simp only [List.zip_cons_cons, List.zip_nil_right] at hi hG ⊢
  (repeat' (first | (refine AWp_seq_k (fun K hK => ?_)) | (apply s_region) | (apply s_q; (first | decide | (dsimp only; decide)); rfl; (solve | (simp only [go_sem]; try rfl))) | (apply s_nil; try simp only [AThen, ABlock]; try (first | (refine hK _ _ ?_; clear hK K) | (clear hK K; refine hK _ _ ?_; clear hK K) | (clear hK K; clear hK K; refine hK _ _ ?_; clear hK K))) | (apply AWp_block) | (apply AWp_skip; try simp only [AThen, ABlock]; try (first | (refine hK _ _ ?_; clear hK K) | (clear hK K; refine hK _ _ ?_; clear hK K) | (clear hK K; clear hK K; refine hK _ _ ?_; clear hK K))) | (apply AWp_exit; simp only [AThen, ABlock, reduceIte, Nat.reduceEqDiff]; try (first | (refine hK _ _ ?_; clear hK K) | (clear hK K; refine hK _ _ ?_; clear hK K) | (clear hK K; clear hK K; refine hK _ _ ?_; clear hK K))) | (apply AWp_ret; try simp only [AThen, ABlock]; apply end_ret; rfl; try simp only [AFr.get, reduceIte, Nat.reduceEqDiff]) | (apply s_lit; (first | decide | (dsimp only; decide)); exact el_25; (solve | (simp only [go_sem]; try rfl)); (solve | (simp only [go_sem]; try rfl)); decide)))
  refine cond_split (by simp only [go_sem]; try rfl) (fun hd => ?_) (fun hd => ?_)
  · have hlt : i < u.length := by simpa using hd
    obtain ⟨n, hn⟩ := gete hlt
    have hgn := int_at hn
    have hfl : ((u.take i).filter fun n => everyB rows n == all).length ≤ 1000001 := Nat.le_trans (List.length_filter_le _ _) (by simp; omega)
    have hnx : (u.take (i + 1)).filter (fun n => everyB rows n == all) = (u.take i).filter (fun n => everyB rows n == all) ++ (if everyB rows n == all then [n] else []) := by
      rw [take_succ hn, List.filter_append, List.filter_cons, List.filter_nil]
    (repeat' (first | (refine AWp_seq_k (fun K hK => ?_)) | (apply s_region) | (apply s_q; (first | decide | (dsimp only; decide)); rfl; (solve | (simp only [go_sem, hgn]; try rfl))) | (apply s_nil; try simp only [AThen, ABlock]; try (first | (refine hK _ _ ?_; clear hK K) | (clear hK K; refine hK _ _ ?_; clear hK K) | (clear hK K; clear hK K; refine hK _ _ ?_; clear hK K))) | (apply AWp_block) | (apply AWp_skip; try simp only [AThen, ABlock]; try (first | (refine hK _ _ ?_; clear hK K) | (clear hK K; refine hK _ _ ?_; clear hK K) | (clear hK K; clear hK K; refine hK _ _ ?_; clear hK K))) | (apply AWp_exit; simp only [AThen, ABlock, reduceIte, Nat.reduceEqDiff]; try (first | (refine hK _ _ ?_; clear hK K) | (clear hK K; refine hK _ _ ?_; clear hK K) | (clear hK K; clear hK K; refine hK _ _ ?_; clear hK K))) | (apply AWp_ret; try simp only [AThen, ABlock]; apply end_ret; rfl; try simp only [AFr.get, reduceIte, Nat.reduceEqDiff]) | (apply s_lit; (first | decide | (dsimp only; decide)); exact el_25; (solve | (simp only [go_sem, hgn]; try rfl)); (solve | (simp only [go_sem, hgn]; try rfl)); decide) | (apply s_call; (first | decide | (dsimp only; decide)); (solve | (simp only [go_sem, hgn]; try rfl)); (solve | (simp only [go_sem, hgn]; try rfl)); apply every_c t n rows (by omega) (fun r hr => Nat.le_trans (hk r hr) (by decide)))))
    refine cond_split (by simp only [go_sem]; try rfl) (fun he => ?_) (fun he => ?_)
    · have he : (everyB rows n == all) = true := by rw [beq_bool]; exact he
      rw [if_pos he] at hnx
      (repeat' (first | (refine AWp_seq_k (fun K hK => ?_)) | (apply s_region) | (apply s_q; (first | decide | (dsimp only; decide)); rfl; (solve | (simp only [go_sem, hgn]; try rfl))) | (apply s_nil; try simp only [AThen, ABlock]; try (first | (refine hK _ _ ?_; clear hK K) | (clear hK K; refine hK _ _ ?_; clear hK K) | (clear hK K; clear hK K; refine hK _ _ ?_; clear hK K))) | (apply AWp_block) | (apply AWp_skip; try simp only [AThen, ABlock]; try (first | (refine hK _ _ ?_; clear hK K) | (clear hK K; refine hK _ _ ?_; clear hK K) | (clear hK K; clear hK K; refine hK _ _ ?_; clear hK K))) | (apply AWp_exit; simp only [AThen, ABlock, reduceIte, Nat.reduceEqDiff]; try (first | (refine hK _ _ ?_; clear hK K) | (clear hK K; refine hK _ _ ?_; clear hK K) | (clear hK K; clear hK K; refine hK _ _ ?_; clear hK K))) | (apply AWp_ret; try simp only [AThen, ABlock]; apply end_ret; rfl; try simp only [AFr.get, reduceIte, Nat.reduceEqDiff]) | (apply s_lit; (first | decide | (dsimp only; decide)); exact el_25; (solve | (simp only [go_sem, hgn]; try rfl)); (solve | (simp only [go_sem, hgn]; try rfl)); decide) | (apply s_append; (first | decide | (dsimp only; decide)); (solve | (simp only [go_sem, hgn]; try rfl)); (solve | (simp only [go_sem, hgn]; try rfl)); apply AApp_map el_25 hG (l := (u.take i).filter fun n => everyB rows n == all) (m := [n]) (g := intCells) rfl rfl tk_25 int_one (by simp; omega) (by simp; omega); intro s1 L1 hG1)))
      refine ⟨(i + 1, s1, L1), by simp only; omega, ⟨by simp only; omega, by simp only; rw [hnx]; exact hG1⟩, ?_, by trivial⟩
      simp only [getAll, List.map_cons, List.map_nil, AFr.get, reduceIte, Nat.reduceEqDiff]
      rw [wrapS hlt (by omega)]; try rfl
    · have he : ¬ (everyB rows n == all) = true := fun h2 => by rw [beq_bool] at h2; exact absurd (h2.symm.trans he) (by simp)
      rw [if_neg he, List.append_nil] at hnx
      (repeat' (first | (refine AWp_seq_k (fun K hK => ?_)) | (apply s_region) | (apply s_q; (first | decide | (dsimp only; decide)); rfl; (solve | (simp only [go_sem]; try rfl))) | (apply s_nil; try simp only [AThen, ABlock]; try (first | (refine hK _ _ ?_; clear hK K) | (clear hK K; refine hK _ _ ?_; clear hK K) | (clear hK K; clear hK K; refine hK _ _ ?_; clear hK K))) | (apply AWp_block) | (apply AWp_skip; try simp only [AThen, ABlock]; try (first | (refine hK _ _ ?_; clear hK K) | (clear hK K; refine hK _ _ ?_; clear hK K) | (clear hK K; clear hK K; refine hK _ _ ?_; clear hK K))) | (apply AWp_exit; simp only [AThen, ABlock, reduceIte, Nat.reduceEqDiff]; try (first | (refine hK _ _ ?_; clear hK K) | (clear hK K; refine hK _ _ ?_; clear hK K) | (clear hK K; clear hK K; refine hK _ _ ?_; clear hK K))) | (apply AWp_ret; try simp only [AThen, ABlock]; apply end_ret; rfl; try simp only [AFr.get, reduceIte, Nat.reduceEqDiff]) | (apply s_lit; (first | decide | (dsimp only; decide)); exact el_25; (solve | (simp only [go_sem]; try rfl)); (solve | (simp only [go_sem]; try rfl)); decide)))
      refine ⟨(i + 1, a, L), by simp only; omega, ⟨by simp only; omega, by simp only; rw [hnx]; exact hG⟩, ?_, by trivial⟩
      simp only [getAll, List.map_cons, List.map_nil, AFr.get, reduceIte, Nat.reduceEqDiff]
      rw [wrapS hlt (by omega)]; try rfl
  · have hge : u.length ≤ i := by simpa using hd
    rw [List.take_of_length_le hge] at hG
    (repeat' (first | (refine AWp_seq_k (fun K hK => ?_)) | (apply s_region) | (apply s_q; (first | decide | (dsimp only; decide)); rfl; (solve | (simp only [go_sem]; try rfl))) | (apply s_nil; try simp only [AThen, ABlock]; try (first | (refine hK _ _ ?_; clear hK K) | (clear hK K; refine hK _ _ ?_; clear hK K) | (clear hK K; clear hK K; refine hK _ _ ?_; clear hK K))) | (apply AWp_block) | (apply AWp_skip; try simp only [AThen, ABlock]; try (first | (refine hK _ _ ?_; clear hK K) | (clear hK K; refine hK _ _ ?_; clear hK K) | (clear hK K; clear hK K; refine hK _ _ ?_; clear hK K))) | (apply AWp_exit; simp only [AThen, ABlock, reduceIte, Nat.reduceEqDiff]; try (first | (refine hK _ _ ?_; clear hK K) | (clear hK K; refine hK _ _ ?_; clear hK K) | (clear hK K; clear hK K; refine hK _ _ ?_; clear hK K))) | (apply AWp_ret; try simp only [AThen, ABlock]; apply end_ret; rfl; try simp only [AFr.get, reduceIte, Nat.reduceEqDiff]) | (apply s_lit; (first | decide | (dsimp only; decide)); exact el_25; (solve | (simp only [go_sem]; try rfl)); (solve | (simp only [go_sem]; try rfl)); decide)))
    exact ⟨H, Ext.refl _, hG⟩
theorem refCommon_c (t : Bool) (rows : List (List Int)) (hl : rows.length ≤ 1000) (hk : ∀ r ∈ rows, r.length ≤ 1000) (hf : rows.flatten.length ≤ 1000000) (H : AHeap) (Kc : AV → AHeap → Prop) (h : Kc (.sl false ((pickedL rows true).map intCells)) H) : ACall X 19 [.sl t (rows.map rowCells)] H Kc := by
  refine ACall_intro Try.func19 rfl (by kernel_rfl) (by rw [Try.ntmps19]; simp) ?_; rw [Try.ntmps19]; simp only [frame0, Nat.reduceAdd]
  (repeat' (first | (refine AWp_seq_k (fun K hK => ?_)) | (apply s_region) | (apply s_q; (first | decide | (dsimp only; decide)); rfl; (solve | (simp only [go_sem]; try rfl))) | (apply s_nil; try simp only [AThen, ABlock]; try (first | (refine hK _ _ ?_; clear hK K) | (clear hK K; refine hK _ _ ?_; clear hK K) | (clear hK K; clear hK K; refine hK _ _ ?_; clear hK K))) | (apply AWp_ret; try simp only [AThen, ABlock]; apply end_ret; rfl; try simp only [AFr.get, reduceIte, Nat.reduceEqDiff]) | (apply s_call; (first | decide | (dsimp only; decide)); (solve | (simp only [go_sem]; try rfl)); (solve | (simp only [go_sem]; try rfl)); apply picked_c t rows true hl hk hf)))
  exact h
theorem refApart_c (t : Bool) (rows : List (List Int)) (hl : rows.length ≤ 1000) (hk : ∀ r ∈ rows, r.length ≤ 1000) (hf : rows.flatten.length ≤ 1000000) (H : AHeap) (Kc : AV → AHeap → Prop) (h : Kc (.sl false ((pickedL rows false).map intCells)) H) : ACall X 21 [.sl t (rows.map rowCells)] H Kc := by
  refine ACall_intro Try.func21 rfl (by kernel_rfl) (by rw [Try.ntmps21]; simp) ?_; rw [Try.ntmps21]; simp only [frame0, Nat.reduceAdd]
  (repeat' (first | (refine AWp_seq_k (fun K hK => ?_)) | (apply s_region) | (apply s_q; (first | decide | (dsimp only; decide)); rfl; (solve | (simp only [go_sem]; try rfl))) | (apply s_nil; try simp only [AThen, ABlock]; try (first | (refine hK _ _ ?_; clear hK K) | (clear hK K; refine hK _ _ ?_; clear hK K) | (clear hK K; clear hK K; refine hK _ _ ?_; clear hK K))) | (apply AWp_ret; try simp only [AThen, ABlock]; apply end_ret; rfl; try simp only [AFr.get, reduceIte, Nat.reduceEqDiff]) | (apply s_call; (first | decide | (dsimp only; decide)); (solve | (simp only [go_sem]; try rfl)); (solve | (simp only [go_sem]; try rfl)); apply picked_c t rows false hl hk hf)))
  exact h
end Go.Proofs.Ytbepggmidagbiaa
