/-
  What holds of each walk, in plain words.
-/
import Derived.Test.YtloobmklfjhfpaaJ
set_option linter.unusedSimpArgs false
set_option linter.unusedVariables false
set_option maxRecDepth 100000
namespace Go.Proofs.Ytloobmklfjhfpaa
open Go Go.AL

/-- y is a child of one of os, one deeper, and not too deep -/
def Par (l : List Space) (dp : Int) (os : List Step) (y : Step) : Prop := ∃ z ∈ os, z.id = y.by_ ∧ z.deep + 1 = y.deep ∧ y.deep ≤ dp ∧ hasKid l y.id y.by_ = true
structure GoodO (l : List Space) (root : List UInt8) (dp : Int) (os : List Step) : Prop where
  once : OnceS os
  each : ∀ i x, os[i]? = some x → (i = 0 ∧ x = ⟨root, [], 0⟩) ∨ (0 < i ∧ Par l dp (os.take i) x)
def GoodS (l : List Space) (root : List UInt8) (dp : Int) (st os : List Step) : Prop := (os = [] ∧ st = [⟨root, [], 0⟩]) ∨ (os ≠ [] ∧ ∀ y ∈ st, Par l dp os y)
theorem Par.more {l : List Space} {dp : Int} {os os' : List Step} {y : Step} (h : Par l dp os y) (hs : ∀ z ∈ os, z ∈ os') : Par l dp os' y := by
  obtain ⟨z, hz, h1⟩ := h
  exact ⟨z, hs z hz, h1⟩
theorem walk_good (l : List Space) (root : List UInt8) (dp limit : Int) : ∀ (f : Nat) (st os : List Step), GoodO l root dp os → GoodS l root dp st os → ((os.length : Int) ≤ limit) →
    GoodO l root dp (walkF l dp limit f st os).1 ∧ ((walkF l dp limit f st os).1.length : Int) ≤ limit
  | 0, st, os, h, _, hl => ⟨h, hl⟩
  | f + 1, st, os, h, hs, hl => by
    unfold walkF
    cases hx : st.getLast? with
    | none => exact ⟨h, hl⟩
    | some x =>
      simp only
      have e := last_split hx
      have hxm : x ∈ st := by rw [e]; simp
      have hsub : ∀ y ∈ st.dropLast, y ∈ st := fun y hy => by rw [e]; simp [hy]
      split
      · refine walk_good l root dp limit f _ _ h ?_ hl
        rcases hs with ⟨rfl, h2⟩ | ⟨h1, h2⟩
        · rename_i hsn; simp [seenS] at hsn
        · exact .inr ⟨h1, fun y hy => h2 y (hsub y hy)⟩
      · rename_i hsn
        split
        · exact ⟨h, hl⟩
        · rename_i hne
          have hsn : seenS x os = false := by simpa using hsn
          refine walk_good l root dp limit f _ _ ⟨onceS_snoc h.once hsn, fun i y hy => ?_⟩ (.inr ⟨by simp, fun y hy => ?_⟩) (by simp; omega)
          · rcases Nat.lt_trichotomy i os.length with hi | hi | hi
            · rw [List.getElem?_append_left hi] at hy
              rcases h.each i y hy with h1 | ⟨h1, h2⟩
              · exact .inl h1
              · refine .inr ⟨h1, ?_⟩
                rw [List.take_append_of_le_length (Nat.le_of_lt hi)]
                exact h2
            · subst hi
              simp at hy
              subst hy
              rcases hs with ⟨rfl, h2⟩ | ⟨h1, h2⟩
              · left
                rw [h2] at hx
                simp at hx
                exact ⟨rfl, hx.symm⟩
              · right
                refine ⟨List.length_pos_iff.2 h1, ?_⟩
                rw [List.take_append_of_le_length (Nat.le_refl _), List.take_length]
                exact h2 x hxm
            · rw [List.getElem?_eq_none (by simp; omega)] at hy; cases hy
          · rcases List.mem_append.1 hy with hy | hy
            · rcases hs with ⟨rfl, h2⟩ | ⟨h1, h2⟩
              · rw [h2] at hy; simp at hy
              · exact (h2 y (hsub y hy)).more (fun z hz => by simp [hz])
            · split at hy
              · rename_i hd
                obtain ⟨_, h1, h2, c, hc, h3⟩ := push_mem (root := root) hy
                refine ⟨x, by simp, h1.symm, h2.symm, by omega, ?_⟩
                rw [hasKid, List.any_eq_true]
                refine ⟨c, by rw [h1]; exact hc, by simp [h3]⟩
              · cases hy
theorem walkR_good (l : List Space) (root : List UInt8) (deep limit : Int) : GoodO l root (cutD deep) (walkR l root deep limit).1 ∧ ((walkR l root deep limit).1.length : Int) ≤ max 0 limit := by
  unfold walkR
  split
  · exact ⟨⟨.nil, fun i x h => by simp at h⟩, by simp; omega⟩
  · obtain ⟨h1, h2⟩ := walk_good l root (cutD deep) limit (limit.toNat * 11 + 2) [⟨root, [], 0⟩] [] ⟨.nil, fun i x h => by simp at h⟩ (.inl ⟨rfl, rfl⟩) (by simp; omega)
    exact ⟨h1, by omega⟩
theorem above_mem {l : List Space} {id k : List UInt8} (h : hasKid l id k = true) : k ∈ aboveL l id := by
  unfold aboveL
  rw [(sortL_perm _).mem_iff, List.mem_filter]
  refine ⟨?_, h⟩
  rw [(keysE_ok l).2.1]
  unfold hasKid at h
  rw [List.any_eq_true] at h
  obtain ⟨c, hc, _⟩ := h
  obtain ⟨s, hs, e, _⟩ := kids_mem hc
  exact ⟨s, hs, e⟩
/-- the last place below k at which x's maker was told; -1: there is none -/
def lastBy (w : List Step) (b : List UInt8) : Nat → Int
  | 0 => -1
  | k + 1 => match w[k]? with | some y => if y.id = b then k else lastBy w b k | none => lastBy w b k
theorem lastBy_eq {w : List Step} (h : OnceS w) {b : List UInt8} {j : Nat} {z : Step} (hz : w[j]? = some z) (hb : z.id = b) : ∀ k, j < k → k ≤ w.length → lastBy w b k = j
  | 0, h1, _ => absurd h1 (Nat.not_lt_zero _)
  | k + 1, h1, h2 => by
    have hk : k < w.length := by omega
    simp only [lastBy, List.getElem?_eq_getElem hk]
    rcases Nat.lt_succ_iff_lt_or_eq.1 h1 with h3 | rfl
    · rw [if_neg]
      · exact lastBy_eq h hz hb k h3 (by omega)
      · intro e
        obtain ⟨hj, rfl⟩ := List.getElem?_eq_some_iff.1 hz
        exact List.pairwise_iff_getElem.1 h j k hj hk h3 (by rw [hb, e])
    · rw [List.getElem?_eq_getElem hk] at hz
      cases hz
      rw [if_pos hb]
theorem once_ne {w : List Step} (h : OnceS w) {i k : Nat} {x y : Step} (hx : w[i]? = some x) (hy : w[k]? = some y) (hki : k < i) : y.id ≠ x.id := by
  obtain ⟨hi, rfl⟩ := List.getElem?_eq_some_iff.1 hx
  obtain ⟨hk, rfl⟩ := List.getElem?_eq_some_iff.1 hy
  exact List.pairwise_iff_getElem.1 h k i hk hi hki
end Go.Proofs.Ytloobmklfjhfpaa
