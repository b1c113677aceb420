/-
  RelateOrder, the plain law: what a row of events with names of their own says does not depend on its order.
-/
import Derived.Test.YtmloandpjbimkaaW25U
set_option linter.unusedSimpArgs false
set_option linter.unusedVariables false
set_option maxRecDepth 100000
namespace Go.Proofs.Ytmloandpjbimkaa
open Go Go.AL

theorem fold_full : ∀ (l out : List Kn), (l.foldl fstep out).length = out.length + l.length → l.foldl fstep out = out ++ l
  | [], out, _ => by simp
  | k :: l, out, h => by
    have hb : ∀ (l out : List Kn), (l.foldl fstep out).length ≤ out.length + l.length := fun l => by
      induction l with
      | nil => intro out; simp
      | cons a l ih => intro out; have h1 := ih (fstep out a); have h2 := fstep_len out a; simp only [List.foldl_cons, List.length_cons]; omega
    simp only [List.foldl_cons, List.length_cons] at h ⊢
    have h1 := hb l (fstep out k)
    have h2 : fstep out k = out ++ [k] := by
      unfold fstep at h1 h ⊢
      split
      · rename_i hc
        rw [if_pos hc] at h1 h; omega
      · rfl
    rw [h2] at h ⊢
    rw [fold_full l _ (by simp only [List.length_append, List.length_cons, List.length_nil]; omega)]; simp
theorem firstL_full {l : List Kn} (h : (firstL l).length = l.length) : firstL l = l := by
  have := fold_full l [] (by simpa [firstL] using h)
  simpa [firstL] using this
theorem firstL_id {l : List Kn} (h : (l.map (·.name)).Nodup) : firstL l = l := by
  have : ∀ (l out : List Kn), ((out ++ l).map (·.name)).Nodup → l.foldl fstep out = out ++ l := fun l => by
    induction l with
    | nil => intro out _; simp
    | cons k l ih =>
      intro out hn
      have hf : fstep out k = out ++ [k] := by
        rw [fstep, if_neg]
        intro e
        obtain ⟨y, hy, hyk⟩ := List.any_eq_true.1 e
        have hyk : y.name = k.name := by simpa using hyk
        rw [List.map_append, List.nodup_append] at hn
        exact hn.2.2 _ (List.mem_map.2 ⟨y, hy, rfl⟩) _ (List.mem_map.2 ⟨k, by simp, rfl⟩) hyk
      rw [List.foldl_cons, hf, ih _ (by simpa using hn)]; simp
  simpa [firstL] using this l [] (by simpa using h)
/-- the rows of a law that turns a row: names of their own, and the same events -/
def Turn (l m : List Kn) : Prop := (l.map (·.name)).Nodup ∧ m.Perm l
theorem Turn.nd {l m : List Kn} (h : Turn l m) : (m.map (·.name)).Nodup := (h.2.map _).nodup_iff.2 h.1
theorem Turn.find {l m : List Kn} (h : Turn l m) (name : List UInt8) : m.find? (fun k => decide (k.name = name)) = l.find? (fun k => decide (k.name = name)) := by
  cases hm : m.find? (fun k => decide (k.name = name)) with
  | none =>
    symm
    rw [List.find?_eq_none] at hm ⊢
    intro x hx; exact hm x (h.2.mem_iff.2 hx)
  | some a =>
    cases hl : l.find? (fun k => decide (k.name = name)) with
    | none =>
      rw [List.find?_eq_none] at hl
      have := hl a (h.2.mem_iff.1 (List.mem_of_find?_eq_some hm))
      exact absurd (List.find?_some hm) this
    | some c =>
      have h1 := List.find?_some hm
      have h2 := List.find?_some hl
      have e1 : a.name = name := by simpa using h1
      have e2 : c.name = name := by simpa using h2
      rw [name_inj h.1 (h.2.mem_iff.1 (List.mem_of_find?_eq_some hm)) (List.mem_of_find?_eq_some hl) (e1.trans e2.symm)]
theorem Turn.about {l m : List Kn} (h : Turn l m) (kind name : List UInt8) : (aboutL m kind name).Perm (aboutL l kind name) := by
  rw [aboutL, aboutL, firstL_id h.1, firstL_id h.nd]; exact h.2.filter _
theorem Turn.newest {l m : List Kn} (hn : (l.map (·.name)).Nodup) (h : m.Perm l) : newestL m = newestL l := newest_uniq hn (newest_ok m) (fun x => h.mem_iff)
theorem Turn.edits {l m : List Kn} (h : Turn l m) (name : List UInt8) (e : Ev) : (editsL m name e).Perm (editsL l name e) := by
  unfold editsL
  split
  · exact .refl _
  · exact (h.about _ _).filter _
theorem Turn.body {l m : List Kn} (h : Turn l m) (name : List UInt8) : bodyL m name = bodyL l name := by
  unfold bodyL
  rw [h.find name]
  have e : ∀ e, newestL (editsL m name e) = newestL (editsL l name e) := fun e => Turn.newest (edits_nodup l name e) (h.edits name e)
  have e2 : ∀ e, (editsL m name e).length = (editsL l name e).length := fun e => (h.edits name e).length_eq
  simp only [e, e2]
theorem Turn.thread {l m : List Kn} (h : Turn l m) (name : List UInt8) : threadL m name = threadL l name := by
  unfold threadL
  rw [(h.about _ _).length_eq, Turn.newest (about_nodup l _ _) (h.about _ _)]
theorem Turn.react {l m : List Kn} (h : Turn l m) (name : List UInt8) : reactL m name = reactL l name := by
  unfold reactL
  exact sortC_congr (cnts_nodup _) (cnts_congr (fun x => (h.about _ _).mem_iff))
/-- a row turned by s places -/
def rotL (l : List Kn) (s : Nat) : List Kn := l.drop s ++ l.take s
theorem rot_perm (l : List Kn) (s : Nat) : (rotL l s).Perm l := by
  have := List.perm_append_comm (l₁ := l.drop s) (l₂ := l.take s)
  rw [List.take_append_drop] at this
  exact this
theorem rot_len (l : List Kn) (s : Nat) : (rotL l s).length = l.length := (rot_perm l s).length_eq
theorem rot_at {l : List Kn} {s i : Nat} (hs : s < l.length) (hi : i < l.length) : (rotL l s)[i]? = l[(i + s) % l.length]? := by
  unfold rotL
  by_cases h : i < l.length - s
  · rw [List.getElem?_append_left (by rw [List.length_drop]; exact h), List.getElem?_drop, Nat.mod_eq_of_lt (by omega), Nat.add_comm]
  · rw [List.getElem?_append_right (by rw [List.length_drop]; omega), List.length_drop, List.getElem?_take_of_lt (by omega)]
    have : (i + s) % l.length = i - (l.length - s) := by
      rw [Nat.mod_eq_sub_mod (by omega), Nat.mod_eq_of_lt (by omega)]; omega
    rw [this]
/-- how the law finds the place -/
def shiftN (by_ : Int) (n : Nat) : Nat := (Int.tmod (Int.tmod by_ n + n) n).toNat
theorem shift_ok (by_ : Int) {n : Nat} (hn : 0 < n) : shiftN by_ n < n ∧ (shiftN by_ n : Int) = Int.tmod (Int.tmod by_ n + n) n ∧ -(n : Int) < Int.tmod by_ n ∧ Int.tmod by_ n < n := by
  have hp : (0 : Int) < n := by omega
  have h1 : -(n : Int) < Int.tmod by_ n := by
    have := Int.lt_tmod_of_pos by_ hp
    omega
  have h2 : Int.tmod by_ n < n := Int.tmod_lt_of_pos by_ hp
  have h3 : 0 ≤ Int.tmod (Int.tmod by_ n + n) n := Int.tmod_nonneg _ (by omega)
  have h4 : Int.tmod (Int.tmod by_ n + n) n < n := Int.tmod_lt_of_pos _ hp
  refine ⟨by unfold shiftN; omega, by unfold shiftN; omega, h1, h2⟩
theorem place_ok {i s n : Nat} (hs : s < n) (hi : i < n) : Int.tmod (Int.tmod ((i : Int) + s) n + n) n = ((i + s) % n : Nat) := by
  have h1 : Int.tmod ((i : Int) + s) n = ((i + s) % n : Nat) := by
    rw [show ((i : Int) + s) = ((i + s : Nat) : Int) by omega, ← Int.ofNat_tmod]
  rw [h1, show (((i + s) % n : Nat) : Int) + n = (((i + s) % n + n : Nat) : Int) by omega, ← Int.ofNat_tmod, Nat.add_mod_right, Nat.mod_mod]
theorem swap_perm {l : List Kn} {i : Nat} {a c : Kn} (ha : l[i]? = some a) (hc : l[i + 1]? = some c) : ((l.set i c).set (i + 1) a).Perm l := by
  obtain ⟨h1, e1⟩ := List.getElem?_eq_some_iff.1 ha
  obtain ⟨h2, e2⟩ := List.getElem?_eq_some_iff.1 hc
  have : ((l.set i l[i + 1]).set (i + 1) l[i]).Perm l := List.set_set_perm h1 h2
  rw [e1, e2] at this
  exact this
end Go.Proofs.Ytmloandpjbimkaa
