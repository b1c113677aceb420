/-
  Boards of marks, in plain words: whose mark a board has; what does not count.
-/
import Derived.Test.YtpdfgmedbphmkaaDoorW26J
set_option linter.unusedSimpArgs false
set_option linter.unusedVariables false
namespace Go.Proofs.YtpdfgmedbphmkaaDoor
open Go Go.AL

def Le (m x : Mark) : Prop := m.at_ < x.at_ ∨ (m.at_ = x.at_ ∧ m.ts ≤ x.ts)
theorem later_le (m x : Mark) : later m x ≤ 0 ↔ Le m x := by
  by_cases h1 : m.at_ < x.at_
  · simp [later, firstNZ, cmp, Le, h1]
  · by_cases h2 : x.at_ < m.at_
    · simp [later, firstNZ, cmp, Le, h1, h2] <;> omega
    · by_cases h3 : m.ts < x.ts
      · simp [later, firstNZ, cmp, Le, h1, h2, h3] <;> omega
      · by_cases h4 : x.ts < m.ts
        · simp [later, firstNZ, cmp, Le, h1, h2, h3, h4] <;> omega
        · simp [later, firstNZ, cmp, Le, h1, h2, h3, h4] <;> omega
theorem Le.refl (m : Mark) : Le m m := .inr ⟨rfl, Int.le_refl _⟩
theorem Le.trans {a b c : Mark} (h : Le a b) (k : Le b c) : Le a c := by
  simp only [Le] at *; omega
theorem Le.total {a b : Mark} (h : ¬ Le a b) : Le b a := by
  simp only [Le] at *; omega
theorem Le.anti {a b : Mark} (hu : a.user = b.user) (h : Le a b) (k : Le b a) : a = b := by
  cases a; cases b
  simp only [Le] at *
  simp only [Mark.mk.injEq]
  exact ⟨hu, by omega, by omega⟩

def IsBest (u : List UInt8) (l : List Mark) : Option Mark → Prop
  | none => ∀ m ∈ l, okMark m = true → m.user ≠ u
  | some x => x ∈ l ∧ okMark x = true ∧ x.user = u ∧ ∀ m ∈ l, okMark m = true → m.user = u → Le m x

theorem best_put {ms : List (List UInt8 × Mark)} {l : List Mark} {m : Mark} (h : ∀ u, IsBest u l (afind u ms)) : ∀ u, IsBest u (l ++ [m]) (afind u (put1 m ms).2.2) := by
  intro u
  have keep : (okMark m = true → m.user = u → ∃ x, afind u ms = some x ∧ Le m x) → IsBest u (l ++ [m]) (afind u ms) := fun hk => by
    have hu := h u
    cases hf : afind u ms with
    | none =>
      rw [hf] at hu
      intro y hy ho
      rcases List.mem_append.1 hy with hy | hy
      · exact hu y hy ho
      · simp at hy; subst hy
        intro e
        obtain ⟨x, hx, _⟩ := hk ho e
        rw [hf] at hx; cases hx
    | some x =>
      rw [hf] at hu
      obtain ⟨h1, h2, h3, h4⟩ := hu
      refine ⟨by simp [h1], h2, h3, fun y hy ho e => ?_⟩
      rcases List.mem_append.1 hy with hy | hy
      · exact h4 y hy ho e
      · simp at hy; subst hy
        obtain ⟨x', hx', hle⟩ := hk ho e
        rw [hf] at hx'; cases hx'
        exact hle
  have new : okMark m = true → (∀ x, afind m.user ms = some x → Le x m) → IsBest u (l ++ [m]) (afind u (aput m.user m ms)) := fun ho hm => by
    rw [afind_aput]
    split
    · rename_i e
      refine ⟨by simp, ho, e, fun y hy hoy ey => ?_⟩
      rcases List.mem_append.1 hy with hy | hy
      · have hu := h u
        cases hf : afind u ms with
        | none => rw [hf] at hu; exact absurd ey (hu y hy hoy)
        | some x =>
          rw [hf] at hu
          exact (hu.2.2.2 y hy hoy ey).trans (hm x (by rw [e]; exact hf))
      · simp at hy; subst hy; exact Le.refl _
    · rename_i e
      exact keep (fun _ e' => absurd e' e)
  simp only [put1]
  split
  · rename_i ho
    split
    · rename_i x hx
      split
      · rename_i hle
        refine keep (fun _ e => ⟨x, by rw [← e]; exact hx, (later_le m x).1 hle⟩)
      · rename_i hle
        refine new ho (fun y hy => ?_)
        rw [hx] at hy; cases hy
        exact Le.total (fun h => hle ((later_le m x).2 h))
    · rename_i hx
      exact new ho (fun y hy => by rw [hx] at hy; cases hy)
  · rename_i ho
    exact keep (fun ho' => absurd ho' ho)

theorem best_fold (l : List Mark) : ∀ {l0 : List Mark} {ms : List (List UInt8 × Mark)}, (∀ u, IsBest u l0 (afind u ms)) → ∀ u, IsBest u (l0 ++ l) (afind u (l.foldl (fun ms m => (put1 m ms).2.2) ms)) := by
  induction l with
  | nil => intro l0 ms h; simpa using h
  | cons m l ih =>
    intro l0 ms h
    have := ih (best_put (m := m) h)
    simpa using this
theorem best_board (l : List Mark) (u : List UInt8) : IsBest u l (afind u (boardOf l)) := by
  have := best_fold l (l0 := []) (ms := []) (fun u m hm => by cases hm) u
  simpa [boardOf] using this

def Nod (ms : List (List UInt8 × Mark)) : Prop := (ms.map (·.1)).Nodup
theorem keys_aput (k : List UInt8) (a : Mark) : ∀ ms : List (List UInt8 × Mark), (aput k a ms).map (·.1) = if k ∈ ms.map (·.1) then ms.map (·.1) else ms.map (·.1) ++ [k]
  | [] => rfl
  | p :: ms => by
    have ih := keys_aput k a ms
    simp only [aput]
    split
    · rename_i e; subst e; simp
    · rename_i e
      rw [List.map_cons, ih, List.map_cons]
      have hk : k ∈ p.1 :: ms.map (·.1) ↔ k ∈ ms.map (·.1) := by
        rw [List.mem_cons]
        exact ⟨fun h => h.resolve_left (fun e' => e e'.symm), .inr⟩
      by_cases hm : k ∈ ms.map (·.1)
      · rw [if_pos hm, if_pos (hk.2 hm)]
      · rw [if_neg hm, if_neg (fun h => hm (hk.1 h))]; rfl
theorem nod_aput {k : List UInt8} {a : Mark} {ms : List (List UInt8 × Mark)} (h : Nod ms) : Nod (aput k a ms) := by
  unfold Nod at *
  rw [keys_aput]
  split
  · exact h
  · rename_i hk
    rw [List.nodup_append]
    refine ⟨h, by simp, fun x hx y hy => ?_⟩
    simp at hy; subst hy
    rintro rfl; exact hk hx
theorem nod_put1 {m : Mark} {ms : List (List UInt8 × Mark)} (h : Nod ms) : Nod (put1 m ms).2.2 := by
  simp only [put1]
  split
  · split
    · split
      · exact h
      · exact nod_aput h
    · exact nod_aput h
  · exact h
theorem nod_fold (l : List Mark) : ∀ {ms : List (List UInt8 × Mark)}, Nod ms → Nod (l.foldl (fun ms m => (put1 m ms).2.2) ms) := by
  induction l with
  | nil => intro ms h; exact h
  | cons m l ih => intro ms h; exact ih (nod_put1 h)
theorem nod_board (l : List Mark) : Nod (boardOf l) := nod_fold l List.nodup_nil

theorem mem_keys {α : Type} {k : List UInt8} : ∀ {ms : List (List UInt8 × α)}, k ∈ ms.map (·.1) ↔ (afind k ms).isSome = true
  | [] => by simp [afind]
  | p :: ms => by
    have ih := mem_keys (k := k) (ms := ms)
    simp only [afind]
    split
    · rename_i e; simp [e]
    · rename_i e
      rw [List.map_cons, List.mem_cons, ih]
      exact ⟨fun h => h.resolve_left (fun e' => e e'.symm), .inr⟩
theorem allOf_eq {ms ms' : List (List UInt8 × Mark)} (hn : Nod ms) (hn' : Nod ms') (h : ∀ u, afind u ms = afind u ms') : allOf ms = allOf ms' := by
  have hp : (ms.map (·.1)).Perm (ms'.map (·.1)) := (List.perm_ext_iff_of_nodup hn hn').2 (fun u => by rw [mem_keys, mem_keys, h u])
  have e : sortL (ms.map (·.1)) = sortL (ms'.map (·.1)) := mergeSort_of_perm hp
  simp only [allOf, e]
  exact List.map_congr_left fun u _ => by simp only [getA, h u]

theorem mem_allOf {ms : List (List UInt8 × Mark)} {m : Mark} : m ∈ allOf ms ↔ ∃ u, afind u ms = some m := by
  simp only [allOf, List.mem_map]
  constructor
  · rintro ⟨u, hu, rfl⟩
    have := (sortL_perm _).mem_iff.1 hu
    obtain ⟨x, hx⟩ := afind_mem this
    exact ⟨u, by rw [hx, getA, hx]; rfl⟩
  · rintro ⟨u, hu⟩
    refine ⟨u, (sortL_perm _).mem_iff.2 (mem_keys.2 (by rw [hu]; rfl)), by rw [getA, hu]; rfl⟩

/-- each right mark of the one has one of the other that is no less -/
def Cov (l l' : List Mark) : Prop := ∀ m ∈ l, okMark m = true → ∃ m' ∈ l', okMark m' = true ∧ m'.user = m.user ∧ Le m m'
theorem Cov.sub {l l' : List Mark} (h : ∀ m ∈ l, m ∈ l') : Cov l l' := fun m hm ho => ⟨m, h m hm, ho, rfl, Le.refl _⟩
theorem Cov.trans {a b c : List Mark} (h : Cov a b) (k : Cov b c) : Cov a c := fun m hm ho => by
  obtain ⟨x, h1, h2, h3, h4⟩ := h m hm ho
  obtain ⟨y, k1, k2, k3, k4⟩ := k x h1 h2
  exact ⟨y, k1, k2, k3.trans h3, h4.trans k4⟩
theorem Cov.app {a b c d : List Mark} (h : Cov a b) (k : Cov c d) : Cov (a ++ c) (b ++ d) := fun m hm ho => by
  rcases List.mem_append.1 hm with hm | hm
  · obtain ⟨x, h1, h2⟩ := h m hm ho; exact ⟨x, by simp [h1], h2⟩
  · obtain ⟨x, h1, h2⟩ := k m hm ho; exact ⟨x, by simp [h1], h2⟩
theorem Cov.board (l : List Mark) : Cov l (allOf (boardOf l)) := fun m hm ho => by
  have := best_board l m.user
  cases hf : afind m.user (boardOf l) with
  | none => rw [hf] at this; exact absurd rfl (this m hm ho)
  | some x =>
    rw [hf] at this
    exact ⟨x, mem_allOf.2 ⟨_, hf⟩, this.2.1, this.2.2.1, this.2.2.2 m hm ho rfl⟩
theorem all_mem {l : List Mark} {m : Mark} (h : m ∈ allOf (boardOf l)) : m ∈ l ∧ okMark m = true ∧ afind m.user (boardOf l) = some m := by
  obtain ⟨u, hu⟩ := mem_allOf.1 h
  have := best_board l u
  rw [hu] at this
  obtain ⟨h1, h2, h3, _⟩ := this
  exact ⟨h1, h2, by rw [h3]; exact hu⟩
theorem Cov.boardR (l : List Mark) : Cov (allOf (boardOf l)) l := Cov.sub fun m hm => (all_mem hm).1

theorem best_cov {u : List UInt8} {l l' : List Mark} {r : Option Mark} (h : Cov l l') (k : Cov l' l) (hb : IsBest u l r) : IsBest u l' r := by
  cases r with
  | none =>
    intro m hm ho e
    obtain ⟨x, h1, h2, h3, _⟩ := k m hm ho
    exact hb x h1 h2 (h3.trans e)
  | some x =>
    obtain ⟨h1, h2, h3, h4⟩ := hb
    obtain ⟨y, y1, y2, y3, y4⟩ := h x h1 h2
    obtain ⟨z, z1, z2, z3, z4⟩ := k y y1 y2
    have hz := h4 z z1 z2 (z3.trans (y3.trans h3))
    have hxy : x = y := Le.anti y3.symm y4 (z4.trans hz)
    subst hxy
    refine ⟨y1, h2, h3, fun m hm ho e => ?_⟩
    obtain ⟨v, v1, v2, v3, v4⟩ := k m hm ho
    exact v4.trans (h4 v v1 v2 (v3.trans e))
theorem best_unique {u : List UInt8} {l : List Mark} {r r' : Option Mark} (h : IsBest u l r) (k : IsBest u l r') : r = r' := by
  cases r with
  | none =>
    cases r' with
    | none => rfl
    | some x => exact absurd k.2.2.1 (h x k.1 k.2.1)
  | some x =>
    cases r' with
    | none => exact absurd h.2.2.1 (k x h.1 h.2.1)
    | some y =>
      have := Le.anti (h.2.2.1.trans k.2.2.1.symm) (k.2.2.2 x h.1 h.2.1 h.2.2.1) (h.2.2.2 y k.1 k.2.1 k.2.2.1)
      rw [this]
theorem allOf_cov {l l' : List Mark} {ms ms' : List (List UInt8 × Mark)} (hn : Nod ms) (hn' : Nod ms') (hb : ∀ u, IsBest u l (afind u ms)) (hb' : ∀ u, IsBest u l' (afind u ms')) (h : Cov l l') (k : Cov l' l) : allOf ms = allOf ms' :=
  allOf_eq hn hn' fun u => best_unique (best_cov h k (hb u)) (hb' u)
theorem allOf_boards {l l' : List Mark} (h : Cov l l') (k : Cov l' l) : allOf (boardOf l) = allOf (boardOf l') :=
  allOf_cov (nod_board l) (nod_board l') (best_board l) (best_board l') h k

theorem keys_le {Q : Nat → Prop} {ms : List (List UInt8 × Mark)} {m : Mark} : (put1 m ms).2.2.length ≤ ms.length + 1 := by
  have haput : (aput m.user m ms).length ≤ ms.length + 1 := by
    have := congrArg List.length (keys_aput m.user m ms)
    rw [List.length_map] at this
    rw [this]
    split <;> simp
  simp only [put1]
  split
  · split
    · split
      · exact Nat.le_succ _
      · exact haput
    · exact haput
  · exact Nat.le_succ _
theorem fold_len (l : List Mark) : ∀ (ms : List (List UInt8 × Mark)), (l.foldl (fun ms m => (put1 m ms).2.2) ms).length ≤ ms.length + l.length := by
  induction l with
  | nil => intro ms; exact Nat.le_refl _
  | cons m l ih =>
    intro ms
    have h1 := ih (put1 m ms).2.2
    have h2 := keys_le (Q := fun _ => True) (ms := ms) (m := m)
    simp only [List.foldl_cons, List.length_cons]
    omega
theorem keys_put1 {Q : List UInt8 → Prop} {ms : List (List UInt8 × Mark)} {m : Mark} (h : ∀ x ∈ ms, Q x.1) (hm : Q m.user) : ∀ x ∈ (put1 m ms).2.2, Q x.1 := by
  have haput : ∀ x ∈ aput m.user m ms, Q x.1 := fun x hx => by
    have : x.1 ∈ (aput m.user m ms).map (·.1) := List.mem_map.2 ⟨x, hx, rfl⟩
    rw [keys_aput] at this
    split at this
    · obtain ⟨y, hy, e⟩ := List.mem_map.1 this; rw [← e]; exact h y hy
    · rcases List.mem_append.1 this with h1 | h1
      · obtain ⟨y, hy, e⟩ := List.mem_map.1 h1; rw [← e]; exact h y hy
      · simp at h1; rw [h1]; exact hm
  simp only [put1]
  split
  · split
    · split
      · exact h
      · exact haput
    · exact haput
  · exact h
theorem keys_fold {Q : List UInt8 → Prop} (l : List Mark) : ∀ {ms : List (List UInt8 × Mark)}, (∀ x ∈ ms, Q x.1) → (∀ m ∈ l, Q m.user) → ∀ x ∈ l.foldl (fun ms m => (put1 m ms).2.2) ms, Q x.1 := by
  induction l with
  | nil => intro ms h _; exact h
  | cons m l ih => intro ms h hl; exact ih (keys_put1 h (hl m (by simp))) (fun x hx => hl x (by simp [hx]))
theorem bd_board {l : List Mark} (hl : l.length ≤ 1000000) (hu : ∀ m ∈ l, m.user.length < 4294967281) : Bd (boardOf l) :=
  ⟨by have := fold_len l []; simp at this; exact Nat.le_trans this hl, keys_fold (Q := fun k => k.length < 4294967281) l (by simp) hu⟩
end Go.Proofs.YtpdfgmedbphmkaaDoor
