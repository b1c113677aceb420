/-
  Children in order, in plain words.
-/
import Derived.Test.YtloobmklfjhfpaaB
set_option linter.unusedSimpArgs false
set_option linter.unusedVariables false
set_option maxRecDepth 100000
namespace Go.Proofs.Ytloobmklfjhfpaa
open Go Go.AL

def Child.key (c : Child) : List (List UInt8) := if ordB c.ord then [[0], c.ord, c.id] else [[1], c.id]
theorem lessC_key (a b : Child) : lessC a b = decide (a.key < b.key) := by
  unfold lessC Child.key
  have h01 : ([0] : List UInt8) < [1] := by decide
  have h10 : ¬ ([1] : List UInt8) < [0] := by decide
  have h1 : ¬ ([1] : List UInt8) < [1] := by decide
  have h0 : ¬ ([0] : List UInt8) < [0] := by decide
  cases ha : ordB a.ord <;> cases hb : ordB b.ord <;> simp [List.cons_lt_cons_iff, h01, h10, h1, h0]
  by_cases e : a.ord = b.ord
  · simp [e, lt_irr]
  · simp [e]
theorem cmpC_key (a b : Child) : cmpC a b < 0 ↔ a.key < b.key := by
  unfold cmpC Child.key rankI
  have h01 : ([0] : List UInt8) < [1] := by decide
  have h10 : ¬ ([1] : List UInt8) < [0] := by decide
  have h1 : ¬ ([1] : List UInt8) < [1] := by decide
  have h0 : ¬ ([0] : List UInt8) < [0] := by decide
  cases ha : ordB a.ord <;> cases hb : ordB b.ord <;> simp [List.cons_lt_cons_iff, h01, h10, h1, h0, cmp, cmpS_lt]
  by_cases e : a.ord = b.ord
  · simp [e, lt_irr, firstNZ, cmpS, cmpS_lt]
    split <;> simp_all
    split <;> simp_all
  · have h2 : cmpS a.ord b.ord ≠ 0 := fun h => e (cmpS_zero.1 h)
    simp [e, firstNZ, h2, cmpS_lt]
theorem key_id {a b : Child} (h : a.key = b.key) : a.id = b.id := by
  unfold Child.key at h
  split at h <;> split at h <;> simp_all
def leC (a b : Child) : Bool := decide (a.key ≤ b.key)
theorem leC_trans (a b c : Child) (h : leC a b = true) (k : leC b c = true) : leC a c = true := by
  simp only [leC, decide_eq_true_eq] at *; exact List.le_trans h k
theorem leC_total (a b : Child) : (leC a b || leC b a) = true := by
  simp only [leC, Bool.or_eq_true, decide_eq_true_eq]; exact List.le_total _ _
theorem leC_iff {a b : Child} : leC a b = true ↔ ¬ b.key < a.key := by simp [leC]

/-- each name once: its first one -/
def uniq (l : List Child) : List Child := l.foldl (fun out c => if out.any (fun x => decide (x.id = c.id)) then out else out ++ [c]) []
def srt (l : List Child) : List Child := (uniq l).mergeSort leC

def Once (l : List Child) : Prop := l.Pairwise fun a b => a.id ≠ b.id
theorem once_snoc {l : List Child} {c : Child} (h : Once l) (hc : l.any (fun x => decide (x.id = c.id)) = false) : Once (l ++ [c]) := by
  refine List.pairwise_append.2 ⟨h, List.pairwise_singleton _ _, fun a ha b hb => ?_⟩
  simp at hb; subst hb
  simpa using List.any_eq_false.1 hc a ha
theorem once_uniq (l : List Child) : Once (uniq l) := by
  suffices ∀ (l out : List Child), Once out → Once (l.foldl (fun out c => if out.any (fun x => decide (x.id = c.id)) then out else out ++ [c]) out) from this l [] .nil
  intro l
  induction l with
  | nil => exact fun out h => h
  | cons c l ih =>
    intro out h
    rw [List.foldl_cons]
    apply ih
    split
    · exact h
    · rename_i hc; exact once_snoc h (by simpa using hc)
theorem once_fold (l : List Child) : ∀ out : List Child, Once (out ++ l) → l.foldl (fun out c => if out.any (fun x => decide (x.id = c.id)) then out else out ++ [c]) out = out ++ l := by
  induction l with
  | nil => intro out _; simp
  | cons c l ih =>
    intro out h
    rw [List.foldl_cons, if_neg, ih]
    · simp
    · simpa using h
    · have := (List.pairwise_append.1 h).2.2
      simp only [List.any_eq_true, decide_eq_true_eq, not_exists, not_and]
      exact fun x hx => this x hx c (by simp)
theorem uniq_once {l : List Child} (h : Once l) : uniq l = l := by
  have := once_fold l [] (by simpa using h)
  simpa [uniq] using this
theorem Once.eq {l : List Child} (h : Once l) {a b : Child} (ha : a ∈ l) (hb : b ∈ l) (e : a.id = b.id) : a = b := by
  induction l with
  | nil => cases ha
  | cons c l ih =>
    unfold Once at h
    rw [List.pairwise_cons] at h
    rcases List.mem_cons.1 ha with rfl | ha2
    · rcases List.mem_cons.1 hb with rfl | hb2
      · rfl
      · exact absurd e (h.1 b hb2)
    · rcases List.mem_cons.1 hb with rfl | hb2
      · exact absurd e.symm (h.1 a ha2)
      · exact ih h.2 ha2 hb2
theorem once_perm {l m : List Child} (h : Once l) (hp : l.Perm m) : Once m := List.Pairwise.perm h hp (fun h => Ne.symm h)
theorem srt_perm (l : List Child) : (srt l).Perm (uniq l) := List.mergeSort_perm _ _
theorem srt_sorted (l : List Child) : (srt l).Pairwise fun a b => leC a b = true := List.pairwise_mergeSort leC_trans leC_total _
theorem srt_once (l : List Child) : Once (srt l) := once_perm (once_uniq l) (srt_perm l).symm
/-- a row of the same children that is in order is that row -/
theorem srt_eq {l m : List Child} (hp : m.Perm (uniq l)) (hs : m.Pairwise fun a b => leC a b = true) : m = srt l := by
  refine List.Perm.eq_of_pairwise (le := fun a b => leC a b = true) (fun a b ha hb h1 h2 => ?_) hs (srt_sorted l) (hp.trans (srt_perm l).symm)
  simp only [leC, decide_eq_true_eq] at h1 h2
  have e := key_id (List.le_antisymm h1 h2)
  exact (once_perm (once_uniq l) hp.symm).eq ha ((srt_perm l |>.trans hp.symm).mem_iff.1 hb) e
theorem srt_srt (l : List Child) : srt (srt l) = srt l :=
  (srt_eq (l := srt l) (m := srt l) (by rw [uniq_once (srt_once l)]) (srt_sorted l)).symm
theorem uniq_len (l : List Child) : (uniq l).length ≤ l.length := by
  suffices ∀ (l out : List Child), (l.foldl (fun out c => if out.any (fun x => decide (x.id = c.id)) then out else out ++ [c]) out).length ≤ out.length + l.length from by
    have h0 := this l []
    rw [List.length_nil, Nat.zero_add] at h0
    exact h0
  intro l
  induction l with
  | nil => intro out; simp
  | cons c l ih =>
    intro out
    rw [List.foldl_cons]
    refine Nat.le_trans (ih _) ?_
    split <;> simp <;> omega
theorem uniq_mem {l : List Child} {c : Child} (h : c ∈ uniq l) : c ∈ l := by
  suffices ∀ (l out : List Child), c ∈ l.foldl (fun out c => if out.any (fun x => decide (x.id = c.id)) then out else out ++ [c]) out → c ∈ out ∨ c ∈ l from (this l [] h).resolve_left (by simp)
  intro l
  induction l with
  | nil => intro out h; simpa using h
  | cons d l ih =>
    intro out h
    rw [List.foldl_cons] at h
    rcases ih _ h with h | h
    · split at h
      · exact .inl h
      · rcases List.mem_append.1 h with h | h
        · exact .inl h
        · simp at h; subst h; simp
    · exact .inr (by simp [h])
theorem srt_mem {l : List Child} {c : Child} (h : c ∈ srt l) : c ∈ l := uniq_mem ((srt_perm l).mem_iff.1 h)
theorem srt_len (l : List Child) : (srt l).length ≤ l.length := by rw [(srt_perm l).length_eq]; exact uniq_len l
end Go.Proofs.Ytloobmklfjhfpaa
