/-
  The document's union.
-/
import Derived.Test.YtbepggmidagbiaaC
set_option linter.unusedSimpArgs false
set_option linter.unusedVariables false
set_option maxRecDepth 100000
namespace Go.Proofs.Ytbepggmidagbiaa
open Go Go.AL
attribute [local irreducible] AOps AWp SOps AE AT ACall AApp

theorem foldl_some {above : Int} {any : Bool} : ∀ (l : List Int) (b : Option Int) (m : Int), l.foldl (leastS above any) b = some m → b = some m ∨ (m ∈ l ∧ (any = false → above < m))
  | [], b, m, h => .inl h
  | x :: l, b, m, h => by
    rcases foldl_some l _ m h with h1 | ⟨h1, h2⟩
    · unfold leastS at h1
      split at h1
      · rename_i hc
        cases h1
        refine .inr ⟨by simp, fun ha => ?_⟩
        subst ha
        simp at hc
        exact hc.1
      · exact .inl h1
    · exact .inr ⟨by simp [h1], h2⟩
theorem least_some {above : Int} {any : Bool} {rows : List (List Int)} {m : Int} (h : leastL above any rows = some m) : m ∈ rows.flatten ∧ (any = false → above < m) := by
  rcases foldl_some _ _ _ h with h1 | h1
  · cases h1
  · exact h1
def unionF (rows : List (List Int)) : Nat → Option Int → List Int
  | 0, _ => []
  | _ + 1, none => []
  | k + 1, some n => n :: unionF rows k (leastL n false rows)
def refU (rows : List (List Int)) : List Int := unionF rows (rows.flatten.length + 1) (leastL 0 true rows)
theorem count_lt {n m : Int} : ∀ {l : List Int}, m ∈ l → n < m → (l.filter fun x => decide (m < x)).length < (l.filter fun x => decide (n < x)).length
  | [], h, _ => by cases h
  | x :: l, h, hn => by
    have hle : ∀ l : List Int, (l.filter fun x => decide (m < x)).length ≤ (l.filter fun x => decide (n < x)).length := fun l => by
      induction l with
      | nil => simp
      | cons y l ih => simp only [List.filter_cons]; split <;> split <;> simp_all <;> omega
    simp only [List.filter_cons]
    rcases List.mem_cons.1 h with rfl | h
    · rw [if_neg (by simp), if_pos (by simpa using hn)]
      have := hle l
      simp; omega
    · have := count_lt h hn
      split <;> split <;> simp_all <;> omega
theorem refUnion_c (t : Bool) (rows : List (List Int)) (hl : rows.length ≤ 1000) (hk : ∀ r ∈ rows, r.length ≤ 1000) (hf : rows.flatten.length ≤ 1000000) (H : AHeap) (Kc : AV → AHeap → Prop) (h : Kc (.sl false ((refU rows).map intCells)) H) : ACall X 17 [.sl t (rows.map rowCells)] H Kc := by
  obtain ⟨U, hU⟩ : ∃ U, refU rows = U := ⟨_, rfl⟩
  rw [hU] at h
  refine ACall.gr (e := 3) (sz := 1) h ?_
  clear h
  refine ACall_intro Try.func17 rfl (by kernel_rfl) (by rw [Try.ntmps17]; simp) ?_; rw [Try.ntmps17]; simp only [frame0, Nat.reduceAdd]
  (repeat' (first | (refine AWp_seq_k (fun K hK => ?_)) | (apply s_region) | (apply s_q; (first | decide | (dsimp only; decide)); rfl; (solve | (simp only [go_sem]; try rfl))) | (apply s_nil; try simp only [AThen, ABlock]; try (first | (refine hK _ _ ?_; clear hK K) | (clear hK K; refine hK _ _ ?_; clear hK K) | (clear hK K; clear hK K; refine hK _ _ ?_; clear hK K))) | (apply AWp_block) | (apply AWp_skip; try simp only [AThen, ABlock]; try (first | (refine hK _ _ ?_; clear hK K) | (clear hK K; refine hK _ _ ?_; clear hK K) | (clear hK K; clear hK K; refine hK _ _ ?_; clear hK K))) | (apply AWp_exit; simp only [AThen, ABlock, reduceIte, Nat.reduceEqDiff]; try (first | (refine hK _ _ ?_; clear hK K) | (clear hK K; refine hK _ _ ?_; clear hK K) | (clear hK K; clear hK K; refine hK _ _ ?_; clear hK K))) | (apply AWp_ret; try simp only [AThen, ABlock]; apply end_ret; rfl; try simp only [AFr.get, reduceIte, Nat.reduceEqDiff]) | (apply s_lit; (first | decide | (dsimp only; decide)); exact el_25; (solve | (simp only [go_sem]; try rfl)); (solve | (simp only [go_sem]; try rfl)); decide) | (apply s_call; (first | decide | (dsimp only; decide)); (solve | (simp only [go_sem]; try rfl)); (solve | (simp only [go_sem]; try rfl)); apply least_c t rows 0 true hl hk)))
  refine AWp_loop_s (σ := Nat × List Int × Option Int × AV × AHeap) [0, 3, 4, 5] (fun s => [.sl t (rows.map rowCells), s.2.2.2.1, .v (.int .i64 (s.2.2.1.getD 0)), .v (.bool s.2.2.1.isSome)]) (fun s => s.2.2.2.2) (fun s => s.1)
    (fun s => s.2.1 ++ unionF rows s.1 s.2.2.1 = U ∧ Gr 3 1 H (s.2.1.map intCells) s.2.2.2.1 s.2.2.2.2 ∧ s.2.1.length + s.1 ≤ rows.flatten.length + 1 ∧ (∀ n, s.2.2.1 = some n → (rows.flatten.filter fun x => decide (n < x)).length < s.1))
    (rows.flatten.length + 1, [], leastL 0 true rows, .sl true [], H) ⟨hU, Gr.nil _ _ _, by simp, fun n _ => Nat.lt_succ_of_le (List.length_filter_le _ _)⟩ rfl rfl (fun s hs => ?_)
  obtain ⟨f, out, cur, a, L⟩ := s
  obtain ⟨h1, hG, h2, h3⟩ := hs
  simp only [List.zip_cons_cons, List.zip_nil_right] at h1 hG h2 h3 ⊢
  cases cur with
  | none =>
    (repeat' (first | (refine AWp_seq_k (fun K hK => ?_)) | (apply s_region) | (apply s_q; (first | decide | (dsimp only; decide)); rfl; (solve | (simp only [go_sem]; try rfl))) | (apply s_nil; try simp only [AThen, ABlock]; try (first | (refine hK _ _ ?_; clear hK K) | (clear hK K; refine hK _ _ ?_; clear hK K) | (clear hK K; clear hK K; refine hK _ _ ?_; clear hK K))) | (apply AWp_block) | (apply AWp_skip; try simp only [AThen, ABlock]; try (first | (refine hK _ _ ?_; clear hK K) | (clear hK K; refine hK _ _ ?_; clear hK K) | (clear hK K; clear hK K; refine hK _ _ ?_; clear hK K))) | (apply AWp_exit; simp only [AThen, ABlock, reduceIte, Nat.reduceEqDiff]; try (first | (refine hK _ _ ?_; clear hK K) | (clear hK K; refine hK _ _ ?_; clear hK K) | (clear hK K; clear hK K; refine hK _ _ ?_; clear hK K))) | (apply AWp_ret; try simp only [AThen, ABlock]; apply end_ret; rfl; try simp only [AFr.get, reduceIte, Nat.reduceEqDiff]) | (apply s_lit; (first | decide | (dsimp only; decide)); exact el_25; (solve | (simp only [go_sem]; try rfl)); (solve | (simp only [go_sem]; try rfl)); decide)))
    refine cond_split (by simp only [go_sem]; try rfl) (fun hd => ?_) (fun hd => ?_)
    · cases hd
    have e : out = U := by
      rw [← h1]
      cases f <;> simp [unionF]
    subst e
    (repeat' (first | (refine AWp_seq_k (fun K hK => ?_)) | (apply s_region) | (apply s_q; (first | decide | (dsimp only; decide)); rfl; (solve | (simp only [go_sem]; try rfl))) | (apply s_nil; try simp only [AThen, ABlock]; try (first | (refine hK _ _ ?_; clear hK K) | (clear hK K; refine hK _ _ ?_; clear hK K) | (clear hK K; clear hK K; refine hK _ _ ?_; clear hK K))) | (apply AWp_block) | (apply AWp_skip; try simp only [AThen, ABlock]; try (first | (refine hK _ _ ?_; clear hK K) | (clear hK K; refine hK _ _ ?_; clear hK K) | (clear hK K; clear hK K; refine hK _ _ ?_; clear hK K))) | (apply AWp_exit; simp only [AThen, ABlock, reduceIte, Nat.reduceEqDiff]; try (first | (refine hK _ _ ?_; clear hK K) | (clear hK K; refine hK _ _ ?_; clear hK K) | (clear hK K; clear hK K; refine hK _ _ ?_; clear hK K))) | (apply AWp_ret; try simp only [AThen, ABlock]; apply end_ret; rfl; try simp only [AFr.get, reduceIte, Nat.reduceEqDiff]) | (apply s_lit; (first | decide | (dsimp only; decide)); exact el_25; (solve | (simp only [go_sem]; try rfl)); (solve | (simp only [go_sem]; try rfl)); decide)))
    exact ⟨H, Ext.refl _, hG⟩
  | some n =>
    have hlt := h3 n rfl
    obtain ⟨f, rfl⟩ : ∃ g, f = g + 1 := ⟨f - 1, by omega⟩
    (repeat' (first | (refine AWp_seq_k (fun K hK => ?_)) | (apply s_region) | (apply s_q; (first | decide | (dsimp only; decide)); rfl; (solve | (simp only [go_sem]; try rfl))) | (apply s_nil; try simp only [AThen, ABlock]; try (first | (refine hK _ _ ?_; clear hK K) | (clear hK K; refine hK _ _ ?_; clear hK K) | (clear hK K; clear hK K; refine hK _ _ ?_; clear hK K))) | (apply AWp_block) | (apply AWp_skip; try simp only [AThen, ABlock]; try (first | (refine hK _ _ ?_; clear hK K) | (clear hK K; refine hK _ _ ?_; clear hK K) | (clear hK K; clear hK K; refine hK _ _ ?_; clear hK K))) | (apply AWp_exit; simp only [AThen, ABlock, reduceIte, Nat.reduceEqDiff]; try (first | (refine hK _ _ ?_; clear hK K) | (clear hK K; refine hK _ _ ?_; clear hK K) | (clear hK K; clear hK K; refine hK _ _ ?_; clear hK K))) | (apply AWp_ret; try simp only [AThen, ABlock]; apply end_ret; rfl; try simp only [AFr.get, reduceIte, Nat.reduceEqDiff]) | (apply s_lit; (first | decide | (dsimp only; decide)); exact el_25; (solve | (simp only [go_sem]; try rfl)); (solve | (simp only [go_sem]; try rfl)); decide)))
    refine cond_split (by simp only [go_sem]; try rfl) (fun hd => ?_) (fun hd => ?_)
    rotate_left
    · cases hd
    (repeat' (first | (refine AWp_seq_k (fun K hK => ?_)) | (apply s_region) | (apply s_q; (first | decide | (dsimp only; decide)); rfl; (solve | (simp only [go_sem]; try rfl))) | (apply s_nil; try simp only [AThen, ABlock]; try (first | (refine hK _ _ ?_; clear hK K) | (clear hK K; refine hK _ _ ?_; clear hK K) | (clear hK K; clear hK K; refine hK _ _ ?_; clear hK K))) | (apply AWp_block) | (apply AWp_skip; try simp only [AThen, ABlock]; try (first | (refine hK _ _ ?_; clear hK K) | (clear hK K; refine hK _ _ ?_; clear hK K) | (clear hK K; clear hK K; refine hK _ _ ?_; clear hK K))) | (apply AWp_exit; simp only [AThen, ABlock, reduceIte, Nat.reduceEqDiff]; try (first | (refine hK _ _ ?_; clear hK K) | (clear hK K; refine hK _ _ ?_; clear hK K) | (clear hK K; clear hK K; refine hK _ _ ?_; clear hK K))) | (apply AWp_ret; try simp only [AThen, ABlock]; apply end_ret; rfl; try simp only [AFr.get, reduceIte, Nat.reduceEqDiff]) | (apply s_lit; (first | decide | (dsimp only; decide)); exact el_25; (solve | (simp only [go_sem]; try rfl)); (solve | (simp only [go_sem]; try rfl)); decide) | (apply s_append; (first | decide | (dsimp only; decide)); (solve | (simp only [go_sem]; try rfl)); (solve | (simp only [go_sem]; try rfl)); apply AApp_map el_25 hG (l := out) (m := [n]) (g := intCells) rfl rfl tk_25 int_one (by simp; omega) (by simp; omega); intro s1 L1 hG1) | (apply s_call; (first | decide | (dsimp only; decide)); (solve | (simp only [go_sem]; try rfl)); (solve | (simp only [go_sem]; try rfl)); apply least_c t rows n false hl hk)))
    refine ⟨(f, out ++ [n], leastL n false rows, s1, L1), by simp only; omega, ⟨?_, hG1, by simp only [List.length_append, List.length_cons, List.length_nil]; omega, fun m hm => ?_⟩, by trivial, by trivial⟩
    · simp only
      rw [← h1, unionF]; simp
    · obtain ⟨k1, k2⟩ := least_some hm
      have := count_lt k1 (k2 rfl)
      simp only; omega
end Go.Proofs.Ytbepggmidagbiaa
