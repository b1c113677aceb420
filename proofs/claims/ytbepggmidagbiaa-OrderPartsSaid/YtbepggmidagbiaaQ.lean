/-
  The plain law of rows: what is told of them is what the document tells.
-/
import Derived.Test.YtbepggmidagbiaaT
import Derived.Test.YtbepggmidagbiaaV
set_option linter.unusedSimpArgs false
set_option linter.unusedVariables false
namespace Go.Proofs.Ytbepggmidagbiaa
open Go Go.AL

theorem leastS_le {above : Int} {any : Bool} : ∀ (l : List Int) (b : Option Int), (∀ b0, b = some b0 → ∃ m, l.foldl (leastS above any) b = some m ∧ m ≤ b0) ∧ ∀ x ∈ l, (any = true ∨ above < x) → ∃ m, l.foldl (leastS above any) b = some m ∧ m ≤ x
  | [], b => ⟨fun b0 e => ⟨b0, e, Int.le_refl _⟩, fun x h => by cases h⟩
  | y :: l, b => by
    obtain ⟨h1, h2⟩ := leastS_le l (leastS above any b y)
    refine ⟨fun b0 e => ?_, fun x hx hc => ?_⟩
    · subst e
      rw [List.foldl_cons]
      by_cases hy : leastS above any (some b0) y = some y ∧ y < b0
      · obtain ⟨m, k1, k2⟩ := h1 y hy.1
        exact ⟨m, k1, by omega⟩
      · have : leastS above any (some b0) y = some b0 := by
          unfold leastS at hy ⊢
          split
          · rename_i hc
            rw [if_pos hc] at hy
            simp at hc
            exact absurd ⟨rfl, hc.2⟩ hy
          · rfl
        exact h1 b0 this
    · rw [List.foldl_cons]
      rcases List.mem_cons.1 hx with rfl | hx
      · have hc' : (any || decide (above < x)) = true := by
          rcases hc with rfl | hc
          · rfl
          · simp [hc]
        cases b with
        | none =>
          have : leastS above any none x = some x := by unfold leastS; rw [if_pos (by simp at hc'; simp [hc'])]
          exact h1 x this
        | some b0 =>
          by_cases hxb : x < b0
          · have : leastS above any (some b0) x = some x := by unfold leastS; rw [if_pos (by simp at hc'; simp [hc', hxb])]
            exact h1 x this
          · have : leastS above any (some b0) x = some b0 := by unfold leastS; rw [if_neg (by simp [hxb])]
            obtain ⟨m, k1, k2⟩ := h1 b0 this
            exact ⟨m, k1, by omega⟩
      · exact h2 x hx hc
theorem least_min {above : Int} {any : Bool} {rows : List (List Int)} {x : Int} (hx : x ∈ rows.flatten) (hc : any = true ∨ above < x) : ∃ m, leastL above any rows = some m ∧ m ≤ x := (leastS_le _ _).2 x hx hc
theorem unionF_spec (rows : List (List Int)) : ∀ (f : Nat) (n : Int), (rows.flatten.filter fun x => decide (n < x)).length < f → (unionF rows f (some n)).Pairwise (· < ·) ∧ ∀ x, x ∈ unionF rows f (some n) ↔ x = n ∨ (x ∈ rows.flatten ∧ n < x)
  | 0, n, h => by omega
  | f + 1, n, h => by
    rw [unionF]
    cases hl : leastL n false rows with
    | none =>
      have hno : ∀ x ∈ rows.flatten, ¬ n < x := fun x hx hn => by
        obtain ⟨m, h1, _⟩ := least_min (any := false) hx (.inr hn)
        rw [hl] at h1; cases h1
      have e : unionF rows f none = [] := by cases f <;> rfl
      rw [e]
      refine ⟨List.pairwise_singleton _ _, fun x => ?_⟩
      rw [List.mem_singleton]
      exact ⟨.inl, fun h => h.elim id (fun h => absurd h.2 (hno x h.1))⟩
    | some m =>
      obtain ⟨k1, k2⟩ := least_some hl
      have hnm := k2 rfl
      have hc := count_lt k1 hnm
      obtain ⟨i1, i2⟩ := unionF_spec rows f m (by omega)
      refine ⟨List.pairwise_cons.2 ⟨fun x hx => ?_, i1⟩, fun x => ?_⟩
      · rcases (i2 x).1 hx with rfl | h2
        · exact hnm
        · omega
      · rw [List.mem_cons, i2]
        constructor
        · rintro (h1 | rfl | ⟨h1, h2⟩)
          · exact .inl h1
          · exact .inr ⟨k1, hnm⟩
          · exact .inr ⟨h1, by omega⟩
        · rintro (h1 | ⟨h1, h2⟩)
          · exact .inl h1
          · obtain ⟨m', h3, h4⟩ := least_min (any := false) h1 (.inr h2)
            rw [hl] at h3; cases h3
            by_cases e : x = m
            · exact .inr (.inl e)
            · exact .inr (.inr ⟨h1, by omega⟩)
theorem refU_spec (rows : List (List Int)) : (refU rows).Pairwise (· < ·) ∧ ∀ x, x ∈ refU rows ↔ x ∈ rows.flatten := by
  unfold refU
  cases hl : leastL 0 true rows with
  | none =>
    refine ⟨by simp [unionF], fun x => ?_⟩
    constructor
    · intro h; simp [unionF] at h
    · intro h
      obtain ⟨m, h1, _⟩ := least_min (any := true) (above := 0) h (.inl rfl)
      rw [hl] at h1; cases h1
  | some m =>
    obtain ⟨i1, i2⟩ := unionF_spec rows (rows.flatten.length + 1) m (Nat.lt_succ_of_le (List.length_filter_le _ _))
    refine ⟨i1, fun x => ?_⟩
    rw [i2]
    obtain ⟨k1, _⟩ := least_some hl
    constructor
    · rintro (rfl | h)
      · exact k1
      · exact h.1
    · intro h
      obtain ⟨m', h3, h4⟩ := least_min (any := true) (above := 0) h (.inl rfl)
      rw [hl] at h3; cases h3
      by_cases e : x = m
      · exact .inl e
      · exact .inr ⟨h, by omega⟩
theorem once_ref (rows : List (List Int)) : onceZ rows.flatten = refU rows := sorted_uniq (onceZ_lt _) (refU_spec rows).1 (fun x => by rw [onceZ_mem, (refU_spec rows).2])
theorem union_eq (rows : List (List Int)) : unionL rows = refU rows := by
  rw [unionL, thoseL, once_ref, List.filter_eq_self.2 (fun _ _ => rfl)]
theorem every_rows (rows : List (List Int)) (x : Int) : everyB rows x = decide (rowsOf rows x = rows.length) := by
  unfold everyB rowsOf
  by_cases h : (rows.all fun r => decide (x ∈ r)) = true
  · rw [h, List.filter_eq_self.2 (fun r hr => List.all_eq_true.1 h r hr)]; simp
  · have h' : (rows.all fun r => decide (x ∈ r)) = false := by simpa using h
    rw [h']
    symm
    rw [decide_eq_false_iff_not]
    intro e
    apply h
    rw [List.all_eq_true]
    intro r hr
    exact List.filter_eq_self.1 (List.filter_sublist.eq_of_length e) r hr
theorem common_eq (rows : List (List Int)) : commonL rows = pickedL rows true := by
  rw [commonL, thoseL, once_ref, pickedL]
  refine List.filter_congr fun x _ => ?_
  rw [every_rows]; simp
theorem apart_eq (rows : List (List Int)) : apartL rows = pickedL rows false := by
  rw [apartL, thoseL, once_ref, pickedL]
  refine List.filter_congr fun x _ => ?_
  rw [every_rows]
  have := rowsOf_le rows x
  by_cases e : rowsOf rows x = rows.length
  · simp [e]
  · simp [e]; omega
end Go.Proofs.Ytbepggmidagbiaa
