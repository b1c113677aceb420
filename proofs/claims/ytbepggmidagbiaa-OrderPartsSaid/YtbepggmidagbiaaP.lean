/-
  The plain law of Linear: a sorted row of what is ready, wants counted down, is the document's least first.
-/
import Derived.Test.YtbepggmidagbiaaB
set_option linter.unusedSimpArgs false
set_option linter.unusedVariables false
namespace Go.Proofs.Ytbepggmidagbiaa
open Go Go.AL

theorem lessI_lt {R : List Int} {a b : Nat} : lessI R a b < 0 ↔ R.getD a 0 < R.getD b 0 ∨ (R.getD a 0 = R.getD b 0 ∧ a < b) := by
  unfold lessI firstNZ firstNZ
  split
  · rename_i h
    rw [cmp_zero] at h
    split
    · rename_i h2
      rw [cmp_zero] at h2
      simp only [firstNZ]; omega
    · rw [cmp_lt]; omega
  · rename_i h
    rw [cmp_zero] at h
    rw [cmp_lt]; omega
theorem less_irr {R : List Int} (a : Nat) : ¬ lessI R a a < 0 := by rw [lessI_lt]; omega
theorem less_tr {R : List Int} {a b c : Nat} (h : lessI R a b < 0) (k : lessI R b c < 0) : lessI R a c < 0 := by rw [lessI_lt] at *; omega
theorem less_ntr {R : List Int} {a b c : Nat} (h : ¬ lessI R a b < 0) (k : ¬ lessI R b c < 0) : ¬ lessI R a c < 0 := by rw [lessI_lt] at *; omega
theorem less_tot {R : List Int} {a b : Nat} (h : ¬ lessI R a b < 0) (hn : a ≠ b) : lessI R b a < 0 := by rw [lessI_lt] at *; omega

def ofN (l : List Nat) : List Int := l.map Int.ofNat
theorem mem_ofN {x : Nat} {l : List Nat} : (x : Int) ∈ ofN l ↔ x ∈ l := by
  simp only [ofN, List.mem_map]
  constructor
  · rintro ⟨y, h, e⟩
    have : y = x := Int.ofNat.inj e
    rw [← this]; exact h
  · intro h; exact ⟨x, h, rfl⟩
/-- are all parents of i told? -/
def rdy (P : List (List Int)) (told : List Nat) (i : Nat) : Bool := (P.getD i []).all fun x => decide (x ∈ ofN told)
def may (P : List (List Int)) (told : List Nat) (i : Nat) : Prop := i ∉ told ∧ rdy P told i = true

theorem picks_eq {P : List (List Int)} {R : List Int} {told : List Nat} {i : Nat} {b : Int} : picks P R (ofN told) i b = true ↔ may P told i ∧ (b < 0 ∨ R.getD i 0 < R.getD b.toNat 0) := by
  simp only [picks, Bool.and_eq_true, Bool.or_eq_true, Bool.not_eq_true', decide_eq_false_iff_not, decide_eq_true_eq, mem_ofN, may, rdy]
theorem best_is {P : List (List Int)} {R : List Int} {told : List Nat} : ∀ n : Nat, (bestU P R (ofN told) n = -1 ∧ ∀ j, j < n → ¬ may P told j) ∨
    ∃ j : Nat, j < n ∧ bestU P R (ofN told) n = j ∧ may P told j ∧ ∀ k, k < n → may P told k → k ≠ j → lessI R j k < 0
  | 0 => .inl ⟨rfl, by omega⟩
  | n + 1 => by
    rcases best_is (P := P) (R := R) (told := told) n with ⟨h1, h2⟩ | ⟨j, hj, h1, h2, h3⟩
    · rw [bestU, h1]
      by_cases hp : picks P R (ofN told) n (-1) = true
      · rw [if_pos hp]
        exact .inr ⟨n, by omega, rfl, (picks_eq.1 hp).1, fun k hk hm hne => absurd hm (h2 k (by omega))⟩
      · rw [if_neg hp]
        refine .inl ⟨rfl, fun k hk hm => ?_⟩
        by_cases e : k = n
        · subst e; exact hp (picks_eq.2 ⟨hm, .inl (by decide)⟩)
        · exact h2 k (by omega) hm
    · rw [bestU, h1]
      by_cases hp : picks P R (ofN told) n (j : Int) = true
      · rw [if_pos hp]
        obtain ⟨hm, hb⟩ := picks_eq.1 hp
        have hb : R.getD n 0 < R.getD j 0 := by
          rcases hb with hb | hb
          · omega
          · simpa using hb
        refine .inr ⟨n, by omega, rfl, hm, fun k hk hk2 hne => ?_⟩
        have hnj : lessI R n j < 0 := lessI_lt.2 (.inl hb)
        by_cases e : k = j
        · subst e; exact hnj
        · exact less_tr hnj (h3 k (by omega) hk2 e)
      · rw [if_neg hp]
        refine .inr ⟨j, by omega, rfl, h2, fun k hk hm hne => ?_⟩
        by_cases e : k = n
        · subst e
          rw [lessI_lt]
          have : ¬ R.getD k 0 < R.getD j 0 := fun h => hp (picks_eq.2 ⟨hm, .inr (by simpa using h)⟩)
          omega
        · exact h3 k (by omega) hm hne

/-- what is ready, in order -/
structure RdOk (P : List (List Int)) (R : List Int) (n : Nat) (told rd : List Nat) : Prop where
  mem : ∀ i, i ∈ rd ↔ i < n ∧ may P told i
  sorted : rd.Pairwise fun a b => lessI R a b < 0
theorem best_cons {P : List (List Int)} {R : List Int} {n : Nat} {told rd : List Nat} {i : Nat} (h : RdOk P R n told (i :: rd)) : bestU P R (ofN told) n = i := by
  have hi := (h.mem i).1 (by simp)
  rcases best_is (P := P) (R := R) (told := told) n with ⟨_, h2⟩ | ⟨j, hj, h1, h2, h3⟩
  · exact absurd hi.2 (h2 i hi.1)
  · rw [h1]
    by_cases e : i = j
    · rw [e]
    · have k1 := h3 i hi.1 hi.2 e
      have hjm : j ∈ i :: rd := (h.mem j).2 ⟨hj, h2⟩
      rcases List.mem_cons.1 hjm with h4 | h4
      · exact absurd h4.symm e
      · have k2 := (List.pairwise_cons.1 h.sorted).1 j h4
        exact absurd (less_tr k1 k2) (less_irr j)
theorem best_nil {P : List (List Int)} {R : List Int} {n : Nat} {told : List Nat} (h : RdOk P R n told []) : bestU P R (ofN told) n = -1 := by
  rcases best_is (P := P) (R := R) (told := told) n with ⟨h1, _⟩ | ⟨j, hj, h1, h2, h3⟩
  · exact h1
  · have := (h.mem j).2 ⟨hj, h2⟩
    cases this
theorem refF_step {P : List (List Int)} {R : List Int} {n : Nat} {told rd : List Nat} {i : Nat} (h : RdOk P R n told (i :: rd)) (hl : told.length < n) :
    refF P R n (n - told.length) (ofN told) = refF P R n (n - (told ++ [i]).length) (ofN (told ++ [i])) := by
  obtain ⟨k, hk⟩ : ∃ k, n - told.length = k + 1 := ⟨n - told.length - 1, by omega⟩
  rw [hk, refF, best_cons h, if_neg (by omega)]
  rw [List.length_append, List.length_singleton, show n - (told.length + 1) = k from by omega, ofN, ofN, List.map_append]; rfl
theorem refF_stop {P : List (List Int)} {R : List Int} {n : Nat} {told : List Nat} (h : RdOk P R n told []) (hl : told.length < n) : refF P R n (n - told.length) (ofN told) = none := by
  obtain ⟨k, hk⟩ : ∃ k, n - told.length = k + 1 := ⟨n - told.length - 1, by omega⟩
  rw [hk, refF, best_nil h, if_pos (by decide)]

/-! ### wants, counted -/
theorem filter_one {α : Type} {p q : α → Bool} {x : α} : ∀ {l : List α}, l.Nodup → x ∈ l → p x = true → q x = false → (∀ y, y ≠ x → p y = q y) → (l.filter p).length = (l.filter q).length + 1
  | [], _, h, _, _, _ => by cases h
  | y :: l, hn, h, hp, hq, he => by
    rw [List.nodup_cons] at hn
    have hsame : ∀ l : List α, x ∉ l → l.filter p = l.filter q := fun l hl => by
      refine List.filter_congr fun z hz => he z ?_
      rintro rfl; exact hl hz
    rcases List.mem_cons.1 h with rfl | h
    · rw [List.filter_cons, List.filter_cons, if_pos hp, if_neg (by rw [hq]; decide), hsame l hn.1]; rfl
    · have hyx : y ≠ x := by rintro rfl; exact hn.1 h
      have ih := filter_one hn.2 h hp hq he
      rw [List.filter_cons, List.filter_cons, he y hyx]
      split
      · simp only [List.length_cons]; omega
      · exact ih
def cnt (n : Nat) (r : List Int) (told : List Nat) : Nat := ((List.range n).filter fun p : Nat => decide ((p : Int) ∈ r) && !decide (p ∈ told)).length
theorem cnt_le (n : Nat) (r : List Int) (told : List Nat) : cnt n r told ≤ n := by
  have := List.length_filter_le (fun p : Nat => decide ((p : Int) ∈ r) && !decide (p ∈ told)) (List.range n)
  rw [List.length_range] at this
  exact this
theorem cnt_nil (n : Nat) (told : List Nat) : cnt n [] told = 0 := by simp [cnt]
theorem cnt_zero {n : Nat} {r : List Int} {told : List Nat} (hr : ∀ x ∈ r, inR n x = true) : cnt n r told = 0 ↔ (r.all fun x => decide (x ∈ ofN told)) = true := by
  rw [cnt, List.length_eq_zero_iff, List.filter_eq_nil_iff, List.all_eq_true]
  constructor
  · intro h x hx
    have h1 := hr x hx
    simp only [inR, Bool.and_eq_true, decide_eq_true_eq] at h1
    obtain ⟨p, rfl⟩ : ∃ p : Nat, x = p := ⟨x.toNat, by omega⟩
    have := h p (by rw [List.mem_range]; omega)
    simp only [Bool.and_eq_true, decide_eq_true_eq, Bool.not_eq_true', decide_eq_false_iff_not, not_and, Decidable.not_not] at this
    rw [decide_eq_true_iff, mem_ofN]
    exact this hx
  · intro h p hp hc
    simp only [Bool.and_eq_true, decide_eq_true_eq, Bool.not_eq_true', decide_eq_false_iff_not] at hc
    have := h _ hc.1
    rw [decide_eq_true_iff, mem_ofN] at this
    exact hc.2 this
theorem cnt_told {n : Nat} {r : List Int} {told : List Nat} {i : Nat} (hi : i < n) (hr : (i : Int) ∈ r) (ht : i ∉ told) : cnt n r told = cnt n r (told ++ [i]) + 1 := by
  refine filter_one List.nodup_range (List.mem_range.2 hi) ?_ ?_ (fun y hy => ?_)
  · simp [hr, ht]
  · simp
  · simp [hy]
theorem cnt_same {n : Nat} {r : List Int} {told : List Nat} {i : Nat} (hr : (i : Int) ∉ r) : cnt n r told = cnt n r (told ++ [i]) := by
  unfold cnt
  congr 1
  refine List.filter_congr fun y _ => ?_
  by_cases e : y = i
  · subst e; simp [hr]
  · simp [e]
theorem cnt_push {n x : Nat} {r : List Int} (hx : x < n) (hr : (x : Int) ∉ r) : cnt n (r ++ [(x : Int)]) [] = cnt n r [] + 1 := by
  refine filter_one List.nodup_range (List.mem_range.2 hx) ?_ ?_ (fun y hy => ?_)
  · simp
  · simp [hr]
  · have : ¬ (y : Int) = (x : Int) := by omega
    simp [this]
theorem cnt_again {n : Nat} {x : Int} {r : List Int} (hr : x ∈ r) : cnt n (r ++ [x]) [] = cnt n r [] := by
  unfold cnt
  congr 1
  refine List.filter_congr fun y _ => ?_
  by_cases e : (y : Int) = x
  · simp [e, hr]
  · simp [e]

/-! ### rows that are written -/
theorem set_range {α : Type} (f : Nat → α) (n i : Nat) (v : α) : ((List.range n).map f).set i v = (List.range n).map fun j => if j = i then v else f j := by
  apply List.ext_getElem?
  intro k
  rw [List.getElem?_set, List.getElem?_map, List.getElem?_map, List.length_map, List.length_range]
  by_cases hk : k < n
  · rw [List.getElem?_range hk]
    by_cases e : i = k
    · subst e; simp [hk]
    · rw [if_neg e]; simp [Ne.symm e]
  · have : (List.range n)[k]? = none := by rw [List.getElem?_eq_none_iff, List.length_range]; omega
    rw [this]
    by_cases e : i = k
    · subst e; simp [hk]
    · simp [e]
theorem get_range {α : Type} (f : Nat → α) {n i : Nat} (h : i < n) : ((List.range n).map f)[i]? = some (f i) := by
  rw [List.getElem?_map, List.getElem?_range h]; rfl

/-! ### the kids of each, the wants of each -/
def kidA (P : List (List Int)) (i : Nat) (r : List Int) (p : Nat) : List Nat := ((List.range i).filter fun j => decide ((p : Int) ∈ P.getD j [])) ++ (if (p : Int) ∈ r then [i] else [])
def wantA (P : List (List Int)) (n i : Nat) (r : List Int) (j : Nat) : Nat := if j < i then cnt n (P.getD j []) [] else if j = i then cnt n r [] else 0
theorem kidA_next {P : List (List Int)} {i : Nat} {r : List Int} (hr : P[i]? = some r) : kidA P (i + 1) [] = kidA P i r := by
  funext p
  unfold kidA
  rw [List.range_succ, List.filter_append, List.filter_cons, List.filter_nil, List.getD_eq_getElem?_getD, hr, Option.getD_some]
  by_cases h : (p : Int) ∈ r <;> simp [h]
theorem wantA_next {P : List (List Int)} {n i : Nat} {r : List Int} (hr : P[i]? = some r) : wantA P n (i + 1) [] = wantA P n i r := by
  funext j
  unfold wantA
  by_cases h1 : j < i
  · rw [if_pos (by omega), if_pos h1]
  · by_cases h2 : j = i
    · subst h2
      rw [if_pos (by omega), if_neg h1, if_pos rfl, List.getD_eq_getElem?_getD, hr]; rfl
    · rw [if_neg (by omega), if_neg h1, if_neg h2]
      split
      · exact cnt_nil _ _
      · rfl
theorem kidA_push {P : List (List Int)} {i x : Nat} {r : List Int} (hr : (x : Int) ∉ r) : kidA P i (r ++ [(x : Int)]) = fun p => if p = x then kidA P i r x ++ [i] else kidA P i r p := by
  funext p
  unfold kidA
  by_cases e : p = x
  · subst e; simp [hr]
  · have : ¬ (p : Int) = (x : Int) := by omega
    simp [e, this]
theorem kidA_again {P : List (List Int)} {i : Nat} {x : Int} {r : List Int} (hr : x ∈ r) : kidA P i (r ++ [x]) = kidA P i r := by
  funext p
  unfold kidA
  by_cases e : (p : Int) = x
  · simp [e, hr]
  · simp [e]
theorem wantA_push {P : List (List Int)} {n i x : Nat} {r : List Int} (hx : x < n) (hr : (x : Int) ∉ r) : wantA P n i (r ++ [(x : Int)]) = fun j => if j = i then wantA P n i r i + 1 else wantA P n i r j := by
  funext j
  unfold wantA
  by_cases h1 : j < i
  · simp [h1, show ¬ j = i from by omega]
  · by_cases h2 : j = i
    · subst h2
      simp [cnt_push hx hr]
    · simp [h1, h2]
theorem wantA_again {P : List (List Int)} {n i : Nat} {x : Int} {r : List Int} (hr : x ∈ r) : wantA P n i (r ++ [x]) = wantA P n i r := by
  funext j
  unfold wantA
  rw [cnt_again hr]
theorem kidA_len (P : List (List Int)) (i : Nat) (r : List Int) (p : Nat) : (kidA P i r p).length ≤ i + 1 := by
  have := List.length_filter_le (fun j : Nat => decide ((p : Int) ∈ P.getD j [])) (List.range i)
  rw [List.length_range] at this
  rw [kidA, List.length_append]
  split
  · rw [List.length_singleton]; omega
  · rw [List.length_nil]; omega

/-! ### one is told: its kids want one less -/
/-- half way through the kids of i: those of kd were told of it -/
structure Mid (P : List (List Int)) (R : List Int) (n : Nat) (told : List Nat) (i : Nat) (kd rd : List Nat) (W : Nat → Nat) : Prop where
  mem : ∀ j, j ∈ rd ↔ j < n ∧ j ≠ i ∧ (may P told j ∨ (j ∈ kd ∧ may P (told ++ [i]) j))
  sorted : rd.Pairwise fun a b => lessI R a b < 0
  want : ∀ j, j < n → W j = cnt n (P.getD j []) (if j ∈ kd then told ++ [i] else told)
def AllIn (P : List (List Int)) (n : Nat) : Prop := ∀ j, ∀ x ∈ P.getD j [], inR n x = true
theorem mid_start {P : List (List Int)} {R : List Int} {n : Nat} {told rd : List Nat} {i : Nat} {W : Nat → Nat} (h : RdOk P R n told (i :: rd)) (hW : ∀ j, j < n → W j = cnt n (P.getD j []) told) : Mid P R n told i [] rd W where
  mem := fun j => by
    have h1 := h.mem j
    rw [List.mem_cons] at h1
    have hi : i ∉ rd := fun hm => less_irr i ((List.pairwise_cons.1 h.sorted).1 i hm)
    constructor
    · intro hj
      have := h1.1 (.inr hj)
      exact ⟨this.1, fun e => hi (e ▸ hj), .inl this.2⟩
    · rintro ⟨h2, h3, h4 | ⟨h4, _⟩⟩
      · rcases h1.2 ⟨h2, h4⟩ with h5 | h5
        · exact absurd h5 h3
        · exact h5
      · cases h4
  sorted := (List.pairwise_cons.1 h.sorted).2
  want := fun j hj => by rw [if_neg (by simp)]; exact hW j hj
theorem may_mono {P : List (List Int)} {told : List Nat} {i j : Nat} (hj : j ≠ i) (h : may P told j) : may P (told ++ [i]) j := by
  refine ⟨by simp [h.1, hj], ?_⟩
  have h2 := h.2
  rw [rdy, List.all_eq_true] at h2 ⊢
  intro x hx
  have := h2 x hx
  rw [decide_eq_true_iff] at this ⊢
  rw [ofN, List.map_append, List.mem_append]
  exact .inl this
theorem may_back {P : List (List Int)} {told : List Nat} {i j : Nat} (hk : (i : Int) ∉ P.getD j []) (h : may P (told ++ [i]) j) : may P told j := by
  refine ⟨fun hm => h.1 (by simp [hm]), ?_⟩
  have h2 := h.2
  rw [rdy, List.all_eq_true] at h2 ⊢
  intro x hx
  have := h2 x hx
  rw [decide_eq_true_iff] at this ⊢
  rw [ofN, List.map_append, List.mem_append] at this
  rcases this with h3 | h3
  · exact h3
  · exfalso
    simp at h3
    rw [h3] at hx; exact hk hx
theorem mid_end {P : List (List Int)} {R : List Int} {n : Nat} {told rd : List Nat} {i : Nat} {kd : List Nat} {W : Nat → Nat} (h : Mid P R n told i kd rd W) (hkd : ∀ j, j < n → (j ∈ kd ↔ (i : Int) ∈ P.getD j [])) :
    RdOk P R n (told ++ [i]) rd ∧ ∀ j, j < n → W j = cnt n (P.getD j []) (told ++ [i]) := by
  refine ⟨⟨fun j => ?_, h.sorted⟩, fun j hj => ?_⟩
  · rw [h.mem j]
    constructor
    · rintro ⟨h1, h2, h3 | ⟨_, h3⟩⟩
      · exact ⟨h1, may_mono h2 h3⟩
      · exact ⟨h1, h3⟩
    · rintro ⟨h1, h2⟩
      have hji : j ≠ i := by rintro rfl; exact h2.1 (by simp)
      refine ⟨h1, hji, ?_⟩
      by_cases hm : j ∈ kd
      · exact .inr ⟨hm, h2⟩
      · exact .inl (may_back (fun hc => hm ((hkd j h1).2 hc)) h2)
  · rw [h.want j hj]
    by_cases hm : j ∈ kd
    · rw [if_pos hm]
    · rw [if_neg hm]
      exact cnt_same (fun hc => hm ((hkd j hj).2 hc))
/-- where k stands -/
def placeOf (R : List Int) (rd : List Nat) (k : Nat) : Nat := (rd.takeWhile fun x => decide (lessI R x k < 0)).length
theorem place_le {R : List Int} {rd : List Nat} {k : Nat} : placeOf R rd k ≤ rd.length := by
  unfold placeOf
  exact (List.takeWhile_sublist _).length_le
theorem tw_take {p : Nat → Bool} : ∀ l : List Nat, l.take (l.takeWhile p).length = l.takeWhile p
  | [] => rfl
  | x :: l => by
    rw [List.takeWhile_cons]
    split
    · rw [List.length_cons, List.take_succ_cons, tw_take l]
    · rfl
theorem tw_mem {p : Nat → Bool} {x : Nat} : ∀ l : List Nat, x ∈ l.takeWhile p → p x = true
  | [], h => by cases h
  | y :: l, h => by
    rw [List.takeWhile_cons] at h
    split at h
    · rename_i hy
      rcases List.mem_cons.1 h with rfl | h
      · exact hy
      · exact tw_mem l h
    · cases h
theorem place_lt {R : List Int} {rd : List Nat} {k : Nat} : ∀ j x, j < placeOf R rd k → rd[j]? = some x → lessI R x k < 0 := fun j x hj hx => by
  have h1 : x ∈ rd.takeWhile fun x => decide (lessI R x k < 0) := by
    rw [← tw_take, List.mem_take_iff_getElem]
    obtain ⟨hl, rfl⟩ := List.getElem?_eq_some_iff.1 hx
    exact ⟨j, by unfold placeOf at hj; omega, rfl⟩
  simpa using tw_mem _ h1
theorem place_ge {R : List Int} {k : Nat} : ∀ {rd : List Nat}, rd.Pairwise (fun a b => lessI R a b < 0) → ∀ j x, placeOf R rd k ≤ j → rd[j]? = some x → ¬ lessI R x k < 0
  | [], _, j, x, _, hx => by simp at hx
  | y :: l, hs, j, x, hj, hx => by
    rw [List.pairwise_cons] at hs
    unfold placeOf at hj
    rw [List.takeWhile_cons] at hj
    by_cases hy : lessI R y k < 0
    · rw [if_pos (by simpa using hy)] at hj
      cases j with
      | zero => simp at hj
      | succ j =>
        rw [List.getElem?_cons_succ] at hx
        exact place_ge hs.2 j x (by unfold placeOf; simp at hj; omega) hx
    · cases j with
      | zero => simp at hx; subst hx; exact hy
      | succ j =>
        rw [List.getElem?_cons_succ] at hx
        intro h
        exact hy (less_tr (hs.1 x (List.mem_of_getElem? hx)) h)
def insAt (rd : List Nat) (m k : Nat) : List Nat := rd.take m ++ [k] ++ rd.drop m
theorem mem_insAt {rd : List Nat} {m k j : Nat} : j ∈ insAt rd m k ↔ j = k ∨ j ∈ rd := by
  unfold insAt
  conv => rhs; rw [← List.take_append_drop m rd]
  simp only [List.mem_append, List.mem_singleton]
  constructor
  · rintro ((h | h) | h)
    · exact .inr (.inl h)
    · exact .inl h
    · exact .inr (.inr h)
  · rintro (h | h | h)
    · exact .inl (.inr h)
    · exact .inl (.inl h)
    · exact .inr h
theorem ins_sorted {R : List Int} {rd : List Nat} {k : Nat} (hs : rd.Pairwise fun a b => lessI R a b < 0) (hk : k ∉ rd) : (insAt rd (placeOf R rd k) k).Pairwise fun a b => lessI R a b < 0 := by
  have h1 : ∀ x ∈ rd.take (placeOf R rd k), lessI R x k < 0 := fun x hx => by
    obtain ⟨j, hj, rfl⟩ := List.mem_take_iff_getElem.1 hx
    exact place_lt j _ (by omega) (List.getElem?_eq_getElem (by omega))
  have h2 : ∀ x ∈ rd.drop (placeOf R rd k), lessI R k x < 0 := fun x hx => by
    obtain ⟨j, hj⟩ := List.getElem?_of_mem hx
    rw [List.getElem?_drop] at hj
    have h3 := place_ge (k := k) hs _ x (by omega) hj
    exact less_tot h3 (by rintro rfl; exact hk (List.mem_of_mem_drop hx))
  unfold insAt
  rw [List.pairwise_append, List.pairwise_append]
  refine ⟨⟨hs.sublist (List.take_sublist _ _), List.pairwise_singleton _ _, fun a ha b hb => ?_⟩, hs.sublist (List.drop_sublist _ _), fun a ha b hb => ?_⟩
  · rw [List.mem_singleton] at hb; subst hb; exact h1 a ha
  · rw [List.mem_append, List.mem_singleton] at ha
    rcases ha with ha | rfl
    · exact less_tr (h1 a ha) (h2 b hb)
    · exact h2 b hb
/-- one kid more is told -/
theorem mid_kid {P : List (List Int)} {R : List Int} {n : Nat} {told rd : List Nat} {i k : Nat} {kd : List Nat} {W : Nat → Nat} (h : Mid P R n told i kd rd W) (hP : AllIn P n) (hcl : ∀ j ∈ told, rdy P told j = true) (hi : i < n) (hit : i ∉ told) (hii : may P told i) (hk : k < n) (hkk : k ∉ kd) (hpk : (i : Int) ∈ P.getD k []) :
    W k = cnt n (P.getD k []) (told ++ [i]) + 1 ∧ k ∉ rd ∧
    (cnt n (P.getD k []) (told ++ [i]) = 0 → Mid P R n told i (kd ++ [k]) (insAt rd (placeOf R rd k) k) (fun j => if j = k then cnt n (P.getD k []) (told ++ [i]) else W j)) ∧
    (cnt n (P.getD k []) (told ++ [i]) ≠ 0 → Mid P R n told i (kd ++ [k]) rd (fun j => if j = k then cnt n (P.getD k []) (told ++ [i]) else W j)) := by
  have hW := h.want k hk
  rw [if_neg hkk] at hW
  have hnm : ¬ may P told k := by
    rintro ⟨_, h2⟩
    rw [rdy, List.all_eq_true] at h2
    have := h2 _ hpk
    rw [decide_eq_true_iff, mem_ofN] at this
    exact hit this
  have hki : k ≠ i := by rintro rfl; exact hnm hii
  have hkt : k ∉ told := fun hm => by
    have h2 := hcl k hm
    rw [rdy, List.all_eq_true] at h2
    have := h2 _ hpk
    rw [decide_eq_true_iff, mem_ofN] at this
    exact hit this
  have hnr : k ∉ rd := fun hm => by
    rcases ((h.mem k).1 hm).2.2 with h3 | ⟨h3, _⟩
    · exact hnm h3
    · exact hkk h3
  have hwant : ∀ j, j < n → (if j = k then cnt n (P.getD k []) (told ++ [i]) else W j) = cnt n (P.getD j []) (if j ∈ kd ++ [k] then told ++ [i] else told) := fun j hj => by
    by_cases e : j = k
    · subst e; simp
    · rw [if_neg e, h.want j hj]
      simp [e]
  refine ⟨hW.trans (cnt_told hi hpk hit), hnr, fun h0 => ⟨fun j => ?_, ins_sorted h.sorted hnr, hwant⟩, fun h0 => ⟨fun j => ?_, h.sorted, hwant⟩⟩
  · have hr : rdy P (told ++ [i]) k = true := (cnt_zero (hP k)).1 h0
    rw [mem_insAt, h.mem j]
    constructor
    · rintro (rfl | ⟨h1, h2, h3 | ⟨h3, h4⟩⟩)
      · exact ⟨hk, hki, .inr ⟨by simp, ⟨by simp [hkt, hki], hr⟩⟩⟩
      · exact ⟨h1, h2, .inl h3⟩
      · exact ⟨h1, h2, .inr ⟨by simp [h3], h4⟩⟩
    · rintro ⟨h1, h2, h3 | ⟨h3, h4⟩⟩
      · exact .inr ⟨h1, h2, .inl h3⟩
      · rw [List.mem_append, List.mem_singleton] at h3
        rcases h3 with h3 | h3
        · exact .inr ⟨h1, h2, .inr ⟨h3, h4⟩⟩
        · exact .inl h3
  · have hr : ¬ rdy P (told ++ [i]) k = true := fun hr => h0 ((cnt_zero (hP k)).2 hr)
    rw [h.mem j]
    constructor
    · rintro ⟨h1, h2, h3 | ⟨h3, h4⟩⟩
      · exact ⟨h1, h2, .inl h3⟩
      · exact ⟨h1, h2, .inr ⟨by simp [h3], h4⟩⟩
    · rintro ⟨h1, h2, h3 | ⟨h3, h4⟩⟩
      · exact ⟨h1, h2, .inl h3⟩
      · rw [List.mem_append, List.mem_singleton] at h3
        rcases h3 with h3 | rfl
        · exact ⟨h1, h2, .inr ⟨h3, h4⟩⟩
        · exact absurd h4.2 hr
theorem closed_step {P : List (List Int)} {told : List Nat} {i : Nat} (hcl : ∀ j ∈ told, rdy P told j = true) (hii : may P told i) : ∀ j ∈ told ++ [i], rdy P (told ++ [i]) j = true := fun j hj => by
  have h2 : rdy P told j = true := by
    rw [List.mem_append, List.mem_singleton] at hj
    rcases hj with hj | rfl
    · exact hcl j hj
    · exact hii.2
  rw [rdy, List.all_eq_true] at h2 ⊢
  intro x hx
  have := h2 x hx
  rw [decide_eq_true_iff] at this ⊢
  rw [ofN, List.map_append, List.mem_append]
  exact .inl this
end Go.Proofs.Ytbepggmidagbiaa
