/-
  Walks through spaces, in plain words.
-/
import Derived.Test.YtloobmklfjhfpaaG
set_option linter.unusedSimpArgs false
set_option linter.unusedVariables false
set_option maxRecDepth 100000
namespace Go.Proofs.Ytloobmklfjhfpaa
open Go Go.AL

def kidsOf (l : List Space) (k : List UInt8) : List Child := match l.find? (fun s => decide (s.id = k)) with | some s => s.kids | none => []
def pushC (x : Step) (c : Child) : Step := ⟨c.id, x.id, x.deep + 1⟩
def push (l : List Space) (x : Step) : List Step := (srt (kidsOf l x.id)).reverse.map (pushC x)
def seenS (x : Step) (os : List Step) : Bool := os.any fun y => decide (y.id = x.id)
def walkF (l : List Space) (deep limit : Int) : Nat → List Step → List Step → List Step × Bool
  | 0, _, os => (os, true)
  | f + 1, st, os => match st.getLast? with
    | none => (os, true)
    | some x => if seenS x os then walkF l deep limit f st.dropLast os
      else if (os.length : Int) = limit then (os, false)
      else walkF l deep limit f (st.dropLast ++ (if x.deep < deep then push l x else [])) (os ++ [x])

def OnceS (l : List Step) : Prop := l.Pairwise fun a b => a.id ≠ b.id
theorem onceS_snoc {l : List Step} {c : Step} (h : OnceS l) (hc : seenS c l = false) : OnceS (l ++ [c]) := by
  refine List.pairwise_append.2 ⟨h, List.pairwise_singleton _ _, fun a ha b hb => ?_⟩
  simp at hb; subst hb
  simpa using List.any_eq_false.1 hc a ha
theorem nodup_le : ∀ {l m : List (List UInt8)}, l.Nodup → (∀ x ∈ l, x ∈ m) → l.length ≤ m.length
  | [], _, _, _ => Nat.zero_le _
  | x :: l, m, hn, hs => by
    rw [List.nodup_cons] at hn
    have hx := hs x (by simp)
    have := nodup_le (l := l) (m := m.erase x) hn.2 (fun y hy => by
      have hne : y ≠ x := by rintro rfl; exact hn.1 hy
      exact (List.mem_erase_of_ne hne).2 (hs y (by simp [hy])))
    rw [List.length_erase_of_mem hx] at this
    have := List.length_pos_of_mem hx
    simp; omega
theorem onceS_le {l : List Step} {U : List (List UInt8)} (h : OnceS l) (hs : ∀ x ∈ l, x.id ∈ U) : l.length ≤ U.length := by
  have := nodup_le (l := l.map (·.id)) (m := U) (by unfold List.Nodup; exact List.pairwise_map.2 h) (fun y hy => by
    obtain ⟨x, hx, rfl⟩ := List.mem_map.1 hy; exact hs x hx)
  simpa using this
/-- all names that a walk may come to -/
def univ (l : List Space) (root : List UInt8) : List (List UInt8) := root :: l.flatMap fun s => s.kids.map (·.id)
theorem univ_len {l : List Space} {root : List UInt8} (h : ∀ s ∈ l, s.kids.length ≤ 10) : (univ l root).length ≤ 1 + 10 * l.length := by
  unfold univ
  rw [List.length_cons]
  suffices (l.flatMap fun s => s.kids.map (·.id)).length ≤ 10 * l.length by omega
  induction l with
  | nil => simp
  | cons s l ih =>
    have h1 := h s (by simp)
    have h2 := ih (fun s hs => h s (by simp [hs]))
    rw [List.flatMap_cons, List.length_append, List.length_map, List.length_cons]; omega
theorem kids_mem {l : List Space} {k : List UInt8} {c : Child} (h : c ∈ kidsOf l k) : ∃ s ∈ l, s.id = k ∧ c ∈ s.kids := by
  unfold kidsOf at h
  split at h
  · rename_i s hs
    exact ⟨s, List.mem_of_find?_eq_some hs, by simpa using List.find?_some hs, h⟩
  · cases h
theorem kids_len {l : List Space} {k : List UInt8} (h : ∀ s ∈ l, s.kids.length ≤ 10) : (kidsOf l k).length ≤ 10 := by
  unfold kidsOf
  split
  · rename_i s hs
    exact h s (List.mem_of_find?_eq_some hs)
  · simp
theorem push_len {l : List Space} {x : Step} (h : ∀ s ∈ l, s.kids.length ≤ 10) : (push l x).length ≤ 10 := by
  unfold push
  rw [List.length_map, List.length_reverse]
  exact Nat.le_trans (srt_len _) (kids_len h)
theorem push_mem {l : List Space} {x y : Step} {root : List UInt8} (h : y ∈ push l x) : y.id ∈ univ l root ∧ y.by_ = x.id ∧ y.deep = x.deep + 1 ∧ ∃ c ∈ kidsOf l x.id, y.id = c.id := by
  unfold push at h
  obtain ⟨c, hc, rfl⟩ := List.mem_map.1 h
  have hc2 := srt_mem (List.mem_reverse.1 hc)
  obtain ⟨s, hs, he, hcs⟩ := kids_mem hc2
  refine ⟨?_, rfl, rfl, c, hc2, rfl⟩
  unfold univ pushC
  refine List.mem_cons_of_mem _ (List.mem_flatMap.2 ⟨s, hs, List.mem_map.2 ⟨c, hcs, rfl⟩⟩)

/-- what holds at each round of a walk -/
structure WInv (l : List Space) (root : List UInt8) (deep limit : Int) (f : Nat) (st os : List Step) : Prop where
  once : OnceS os
  uo : ∀ x ∈ os, x.id ∈ univ l root
  us : ∀ x ∈ st, x.id ∈ univ l root
  ds : ∀ x ∈ st, 0 ≤ x.deep ∧ x.deep ≤ 10
  lim : (os.length : Int) ≤ limit
  sl : st.length ≤ 1 + 10 * os.length
  fuel : (limit.toNat - os.length) * 11 + st.length < f
theorem WInv.os_len {l : List Space} {root : List UInt8} {deep limit : Int} {f : Nat} {st os : List Step} (h : WInv l root deep limit f st os) (hC : ∀ s ∈ l, s.kids.length ≤ 10) : os.length ≤ 1 + 10 * l.length :=
  Nat.le_trans (onceS_le h.once h.uo) (univ_len hC)
theorem last_split {st : List Step} {x : Step} (h : st.getLast? = some x) : st = st.dropLast ++ [x] := by
  obtain ⟨ys, rfl⟩ := List.getLast?_eq_some_iff.1 h
  simp
theorem WInv.skip {l : List Space} {root : List UInt8} {deep limit : Int} {f : Nat} {st os : List Step} {x : Step} (h : WInv l root deep limit (f + 1) st os) (hx : st.getLast? = some x) : WInv l root deep limit f st.dropLast os := by
  have e := last_split hx
  have hl : st.length = st.dropLast.length + 1 := by
    have h0 := congrArg List.length e
    rwa [List.length_append] at h0
  refine ⟨h.once, h.uo, fun y hy => h.us y (by rw [e]; simp [hy]), fun y hy => h.ds y (by rw [e]; simp [hy]), h.lim, by have := h.sl; omega, by have := h.fuel; omega⟩
theorem WInv.go {l : List Space} {root : List UInt8} {deep limit : Int} {f : Nat} {st os : List Step} {x : Step} (hC : ∀ s ∈ l, s.kids.length ≤ 10) (hd : deep ≤ 10) (h : WInv l root deep limit (f + 1) st os) (hx : st.getLast? = some x) (hs : seenS x os = false) (hl : (os.length : Int) ≠ limit) :
    WInv l root deep limit f (st.dropLast ++ (if x.deep < deep then push l x else [])) (os ++ [x]) := by
  have e := last_split hx
  have hxm : x ∈ st := by rw [e]; simp
  have hl' : st.length = st.dropLast.length + 1 := by
    have h0 := congrArg List.length e
    rwa [List.length_append] at h0
  have hpl : (if x.deep < deep then push l x else []).length ≤ 10 := by split; exact push_len hC; simp
  refine ⟨onceS_snoc h.once hs, fun y hy => ?_, fun y hy => ?_, fun y hy => ?_, ?_, ?_, ?_⟩
  · rcases List.mem_append.1 hy with hy | hy
    · exact h.uo y hy
    · simp at hy; subst hy; exact h.us _ hxm
  · rcases List.mem_append.1 hy with hy | hy
    · exact h.us y (by rw [e]; simp [hy])
    · split at hy
      · exact (push_mem hy).1
      · cases hy
  · rcases List.mem_append.1 hy with hy | hy
    · exact h.ds y (by rw [e]; simp [hy])
    · split at hy
      · rename_i hlt
        have h1 := (push_mem (root := root) hy).2.2.1
        have h2 := h.ds x hxm
        omega
      · cases hy
  · have := h.lim
    simp; omega
  · have := h.sl
    simp; omega
  · have h1 := h.fuel
    have h2 := h.lim
    rw [List.length_append, List.length_append]
    simp only [List.length_cons, List.length_nil]
    have h3 : limit.toNat - os.length = limit.toNat - (os.length + (0 + 1)) + 1 := by omega
    rw [h3] at h1
    omega
end Go.Proofs.Ytloobmklfjhfpaa
