/-
  The program's board and the document's, in plain words.
-/
import Derived.Test.YtpdfgmedbphmkaaGreatDoorW26V
set_option linter.unusedSimpArgs false
set_option linter.unusedVariables false
namespace Go.Proofs.YtpdfgmedbphmkaaGreatDoor
open Go Go.AL

/-- every mark stands under its own user -/
def Own (ms : List (List UInt8 × Mark)) : Prop := ∀ u x, afind u ms = some x → x.user = u
theorem own_put1 {m : Mark} {ms : List (List UInt8 × Mark)} (h : Own ms) : Own (put1 m ms).2.2 := put1_all (Q := fun u x => x.user = u) h (fun _ => rfl)
theorem own_board (l : List Mark) : Own (boardOf l) := boardOf_all (Q := fun u x => x.user = u) (fun _ _ _ => rfl)

def SortedU (L : List Mark) : Prop := L.Pairwise fun a b => a.user < b.user
theorem lt_asymm' {a b : List UInt8} (h : a < b) (k : b < a) : False := List.lt_irrefl a (List.lt_trans h k)
theorem sorted_ext : ∀ {L L' : List Mark}, SortedU L → SortedU L' → (∀ x, x ∈ L ↔ x ∈ L') → L = L'
  | [], [], _, _, _ => rfl
  | [], b :: L', _, _, h => by have := (h b).2 (by simp); cases this
  | a :: L, [], _, _, h => by have := (h a).1 (by simp); cases this
  | a :: L, b :: L', h1, h2, h => by
    have p1 := List.pairwise_cons.1 h1
    have p2 := List.pairwise_cons.1 h2
    have hab : a = b := by
      rcases List.mem_cons.1 ((h a).1 (by simp)) with e | ha
      · exact e
      · rcases List.mem_cons.1 ((h b).2 (by simp)) with e | hb
        · exact e.symm
        · exact (lt_asymm' (p1.1 b hb) (p2.1 a ha)).elim
    subst hab
    have htl : ∀ x, x ∈ L ↔ x ∈ L' := fun x => by
      constructor
      · intro hx
        rcases List.mem_cons.1 ((h x).1 (by simp [hx])) with e | hx'
        · subst e; exact (List.lt_irrefl _ (p1.1 x hx)).elim
        · exact hx'
      · intro hx
        rcases List.mem_cons.1 ((h x).2 (by simp [hx])) with e | hx'
        · subst e; exact (List.lt_irrefl _ (p2.1 x hx)).elim
        · exact hx'
    rw [sorted_ext p1.2 p2.2 htl]

theorem lt_or_eq' {a b : List UInt8} (h : a ≤ b) : a < b ∨ a = b := by
  by_cases h1 : a < b
  · exact .inl h1
  · exact .inr (List.le_antisymm h (show b ≤ a from h1))
theorem sortL_sorted {l : List (List UInt8)} (hn : l.Nodup) : (sortL l).Pairwise fun a b => a < b := by
  have h1 : (sortL l).Pairwise fun a b => decide (a ≤ b) = true := List.pairwise_mergeSort (le := fun x y => decide (x ≤ y)) (fun a b c h1 h2 => by simp at h1 h2 ⊢; exact List.le_trans h1 h2) (fun a b => by simp; exact List.le_total a b) l
  have h2 : (sortL l).Nodup := (sortL_perm l).nodup_iff.2 hn
  have h3 := List.Pairwise.and h1 h2
  exact h3.imp fun {a b} ⟨k1, k2⟩ => (lt_or_eq' (by simpa using k1)).resolve_right k2
theorem allOf_user {ms : List (List UInt8 × Mark)} (ho : Own ms) : (allOf ms).map Mark.user = sortL (ms.map (·.1)) := by
  rw [allOf, List.map_map]
  have : ∀ u ∈ sortL (ms.map (·.1)), (Mark.user ∘ fun u => getA u ms) u = u := fun u hu => by
    obtain ⟨x, hx⟩ := afind_mem ((sortL_perm _).mem_iff.1 hu)
    simp only [Function.comp, getA, hx, Option.getD_some]
    exact ho u x hx
  rw [List.map_congr_left this, List.map_id']
theorem allOf_sorted {ms : List (List UInt8 × Mark)} (hn : Nod ms) (ho : Own ms) : SortedU (allOf ms) := by
  have h := sortL_sorted hn
  rw [← allOf_user ho, List.pairwise_map] at h
  exact h
theorem mem_all {ms : List (List UInt8 × Mark)} (ho : Own ms) {x : Mark} : x ∈ allOf ms ↔ afind x.user ms = some x := by
  rw [mem_allOf]
  exact ⟨fun ⟨u, hu⟩ => by rw [ho u x hu]; exact hu, fun h => ⟨_, h⟩⟩
theorem find_all {ms : List (List UInt8 × Mark)} (ho : Own ms) (u : List UInt8) : findM u (allOf ms) = afind u ms := by
  cases hf : afind u ms with
  | some x =>
    have hu := ho u x hf
    have hx : x ∈ allOf ms := mem_allOf.2 ⟨u, hf⟩
    cases hg : findM u (allOf ms) with
    | none =>
      have := List.find?_eq_none.1 hg x hx
      simp [hu] at this
    | some y =>
      have hy := List.mem_of_find?_eq_some hg
      have hyu := List.find?_some hg
      have e : y.user = u := by simpa using hyu
      have := (mem_all ho).1 hy
      rw [e, hf] at this
      exact this.symm
  | none =>
    cases hg : findM u (allOf ms) with
    | none => rfl
    | some y =>
      have hy := List.mem_of_find?_eq_some hg
      have hyu := List.find?_some hg
      have e : y.user = u := by simpa using hyu
      have := (mem_all ho).1 hy
      rw [e, hf] at this
      cases this
theorem mem_ins {m x : Mark} : ∀ {L : List Mark}, x ∈ ins m L ↔ x = m ∨ x ∈ L
  | [] => by simp [ins]
  | y :: L => by
    simp only [ins]
    split
    · simp
    · rw [List.mem_cons, mem_ins (L := L), List.mem_cons]
      constructor
      · rintro (h | h | h)
        · exact .inr (.inl h)
        · exact .inl h
        · exact .inr (.inr h)
      · rintro (h | h | h)
        · exact .inr (.inl h)
        · exact .inl h
        · exact .inr (.inr h)
theorem ins_sorted {m : Mark} : ∀ {L : List Mark}, SortedU L → (∀ x ∈ L, x.user ≠ m.user) → SortedU (ins m L)
  | [], _, _ => by simp [ins, SortedU]
  | y :: L, h, hne => by
    have p := List.pairwise_cons.1 h
    simp only [ins]
    split
    · rename_i hlt
      refine List.pairwise_cons.2 ⟨fun x hx => ?_, h⟩
      rcases List.mem_cons.1 hx with e | hx
      · subst e; exact hlt
      · exact List.lt_trans hlt (p.1 x hx)
    · rename_i hlt
      refine List.pairwise_cons.2 ⟨fun x hx => ?_, ins_sorted p.2 fun x hx => hne x (by simp [hx])⟩
      rcases mem_ins.1 hx with e | hx
      · subst e
        rcases lt_or_eq' (show y.user ≤ x.user from hlt) with h1 | h1
        · exact h1
        · exact absurd h1 (hne y (by simp))
      · exact p.1 x hx
theorem sorted_user {L : List Mark} (h : SortedU L) {i j : Nat} {x y : Mark} (hx : L[i]? = some x) (hy : L[j]? = some y) (hij : i ≠ j) : x.user ≠ y.user := by
  intro e
  obtain ⟨hi, rfl⟩ := List.getElem?_eq_some_iff.1 hx
  obtain ⟨hj, rfl⟩ := List.getElem?_eq_some_iff.1 hy
  have hp := List.pairwise_iff_getElem.1 h
  rcases Nat.lt_or_ge i j with h1 | h1
  · have := hp i j hi hj h1; rw [e] at this; exact List.lt_irrefl _ this
  · have := hp j i hj hi (by omega); rw [e] at this; exact List.lt_irrefl _ this

theorem all_aput {m : Mark} {ms : List (List UInt8 × Mark)} (ho : Own ms) (ho' : Own (aput m.user m ms)) (x : Mark) : x ∈ allOf (aput m.user m ms) ↔ x = m ∨ (x ∈ allOf ms ∧ x.user ≠ m.user) := by
  rw [mem_all ho', afind_aput, mem_all ho]
  by_cases e : m.user = x.user
  · rw [if_pos e]
    exact ⟨fun h => .inl (by cases h; rfl), fun h => h.elim (fun e' => by rw [e']) (fun h => absurd e.symm h.2)⟩
  · rw [if_neg e]
    exact ⟨fun h => .inr ⟨h, fun e' => e e'.symm⟩, fun h => h.elim (fun e' => absurd (by rw [e']) e) (fun h => h.1)⟩
theorem own_aput {m : Mark} {ms : List (List UInt8 × Mark)} (h : Own ms) : Own (aput m.user m ms) := fun u x hx => by
  rw [afind_aput] at hx
  split at hx
  · rename_i e; cases hx; exact e
  · exact h u x hx

theorem rput_all (m : Mark) {ms : List (List UInt8 × Mark)} (hn : Nod ms) (ho : Own ms) : rput m (allOf ms) = ((put1 m ms).1, (put1 m ms).2.1, allOf (put1 m ms).2.2) := by
  have hfa := find_all ho m.user
  have hpl := place_find (u := m.user) (L := allOf ms)
  have hs := allOf_sorted hn ho
  have ho' := own_aput (m := m) ho
  have hs' := allOf_sorted (nod_aput (k := m.user) (a := m) hn) ho'
  simp only [rput, put1]
  split
  · rename_i hok
    cases hf : afind m.user ms with
    | none =>
      rw [hf] at hfa
      have hp : place m.user (allOf ms) = none := by
        cases hp : place m.user (allOf ms) with
        | none => rfl
        | some i => rw [hp] at hpl; obtain ⟨_, y, _, h2⟩ := hpl; rw [hfa] at h2; cases h2
      rw [hp]
      simp only
      congr 2
      refine sorted_ext (ins_sorted hs fun x hx e => ?_) hs' fun x => ?_
      · have := (mem_all ho).1 hx
        rw [e, hf] at this; cases this
      · rw [mem_ins, all_aput ho ho']
        constructor
        · rintro (h | h)
          · exact .inl h
          · refine .inr ⟨h, fun e => ?_⟩
            have := (mem_all ho).1 h
            rw [e, hf] at this; cases this
        · rintro (h | h)
          · exact .inl h
          · exact .inr h.1
    | some x =>
      rw [hf] at hfa
      cases hp : place m.user (allOf ms) with
      | none => rw [hp] at hpl; rw [hpl] at hfa; cases hfa
      | some i =>
        rw [hp] at hpl
        obtain ⟨hi, y, hy, h2⟩ := hpl
        rw [hfa] at h2; cases h2
        have hxu := ho _ _ hf
        simp only [hy]
        by_cases hle : Le m x
        · rw [if_pos hle, if_pos ((later_le m x).2 hle)]
        · rw [if_neg hle, if_neg (fun h => hle ((later_le m x).1 h))]
          congr 2
          have her : (allOf ms).take i ++ (allOf ms).drop (i + 1) = (allOf ms).eraseIdx i := (List.eraseIdx_eq_take_drop_succ _ _).symm
          have hmem : ∀ z, z ∈ (allOf ms).eraseIdx i ↔ z ∈ allOf ms ∧ z.user ≠ m.user := fun z => by
            rw [List.mem_eraseIdx_iff_getElem?]
            constructor
            · rintro ⟨j, hj, hz⟩
              refine ⟨List.mem_of_getElem? hz, fun e => ?_⟩
              exact sorted_user hs hz hy hj (e.trans hxu.symm)
            · rintro ⟨hz, hne⟩
              obtain ⟨j, hj, rfl⟩ := List.getElem_of_mem hz
              refine ⟨j, ?_, List.getElem?_eq_getElem hj⟩
              rintro rfl
              rw [List.getElem?_eq_getElem hj] at hy
              cases hy
              exact hne hxu
          rw [her]
          refine sorted_ext (ins_sorted (List.Pairwise.sublist (List.eraseIdx_sublist _ _) hs) fun z hz => ((hmem z).1 hz).2) hs' fun z => ?_
          rw [mem_ins, hmem, all_aput ho ho']
  · rfl

theorem filter_from {p : List UInt8 → Bool} : ∀ (S : List (List UInt8)) (k c : Nat), ((S.zipIdx k).filter fun x => decide (c ≤ x.2) && p x.1).length = ((S.drop (c - k)).filter p).length
  | [], k, c => by simp
  | a :: S, k, c => by
    have ih := filter_from (p := p) S (k + 1) c
    rw [List.zipIdx_cons, List.filter_cons]
    by_cases h : c ≤ k
    · rw [show c - k = 0 by omega, List.drop_zero, List.filter_cons]
      rw [show c - (k + 1) = 0 by omega, List.drop_zero] at ih
      simp only [decide_eq_true h, Bool.true_and]
      split <;> simp [ih]
    · rw [show c - k = (c - (k + 1)) + 1 by omega, List.drop_succ_cons]
      simp only [decide_eq_false h, Bool.false_and, Bool.false_eq_true, if_false]
      exact ih
theorem runread_all {u : List UInt8} {ms : List (List UInt8 × Mark)} (ho : Own ms) (hpos : ∀ x, afind u ms = some x → 0 ≤ x.at_) (S : List (List UInt8)) : runread u (allOf ms) S = unread u ms S := by
  simp only [runread, unread, getM, find_all ho u, fromN]
  cases hf : afind u ms with
  | none =>
    have := filter_from (p := fun s => !decide (s = u)) S 0 0
    simp at this ⊢
    exact this
  | some x =>
    have h0 := hpos x hf
    have := filter_from (p := fun s => !decide (s = u)) S 0 (x.at_.toNat + 1)
    have e : ∀ k : Nat, decide (x.at_ < (k : Int)) = decide (x.at_.toNat + 1 ≤ k) := fun k => by
      by_cases h : x.at_ < (k : Int)
      · rw [decide_eq_true h, decide_eq_true (by omega)]
      · rw [decide_eq_false h, decide_eq_false (by omega)]
    simp only [Option.isSome_some, Bool.not_true, Bool.false_or, Option.getD_some, e]
    rw [this, Nat.sub_zero]
    rcases Nat.lt_or_ge x.at_.toNat S.length with h | h
    · rw [Nat.min_eq_left (Nat.le_of_lt h)]
    · rw [List.drop_eq_nil_of_le (by omega), List.drop_eq_nil_of_le (by omega)]
theorem getM_all {u : List UInt8} {ms : List (List UInt8 × Mark)} (ho : Own ms) : getM u (allOf ms) = getA u ms := by rw [getM, getA, find_all ho u]
end Go.Proofs.YtpdfgmedbphmkaaGreatDoor
