/-
  The document's Reactions: the counts, as they come. Plain parts.
-/
import Derived.Test.YtmloandpjbimkaaW25L
import Derived.Test.YtmloandpjbimkaaW25K
set_option linter.unusedSimpArgs false
set_option linter.unusedVariables false
set_option maxRecDepth 100000
namespace Go.Proofs.Ytmloandpjbimkaa
open Go Go.AL
attribute [local irreducible] AOps AWp SOps AE AT ACall AApp

theorem nodup_of_inj {α : Type} : ∀ {l : List α}, (∀ (i j : Nat) (a : α), l[i]? = some a → l[j]? = some a → i = j) → l.Nodup
  | [], _ => .nil
  | a :: l, h => List.nodup_cons.2 ⟨fun hm => by
      obtain ⟨i, hi⟩ := List.mem_iff_getElem?.1 hm
      have := h 0 (i + 1) a rfl (by simpa using hi)
      omega, nodup_of_inj fun i j b hi hj => by
      have := h (i + 1) (j + 1) b (by simpa using hi) (by simpa using hj)
      omega⟩
/-- a count whose users are a row of its own -/
def rcell (V : List Kn) (p : List UInt8 × Nat) : List AV := [.s p.1, .row p.2 1 (sendersOf V p.1).length]
theorem rcell_at {V : List Kn} {l : List (List UInt8 × Nat)} {i : Nat} {p : List UInt8 × Nat} (h : l[i]? = some p) : (l.map (rcell V))[i]? = some [.s p.1, .row p.2 1 (sendersOf V p.1).length] := by rw [List.getElem?_map, h]; rfl
theorem rcell_one (V : List Kn) (p : List UInt8 × Nat) : (rcell V p).length = 2 ∧ (rcell V p).all AV.one = true := ⟨rfl, rfl⟩
/-- the counts as they were gathered: each in a row, its users in a row of their own -/
structure AllAt (V : List Kn) (ks : List (List UInt8 × Nat)) (a : AV) (L H : AHeap) : Prop where
  keys : ks.map (·.1) = keysOf V
  row : (ks = [] ∧ a = .sl true []) ∨ ∃ ba, a = .row ba 2 ks.length ∧ L.get ba = some (.row 50 2 false (ks.map (rcell V))) ∧ H.get ba = none ∧ ∀ p ∈ ks, p.2 ≠ ba
  users : ∀ p ∈ ks, L.get p.2 = some (.row 9 1 false ((sendersOf V p.1).map strCells)) ∧ H.get p.2 = none
  apart : (ks.map (·.2)).Nodup
  ext : Ext H L
theorem AllAt.len {V : List Kn} {ks : List (List UInt8 × Nat)} {a : AV} {L H : AHeap} (h : AllAt V ks a L H) (e' : Nat) (s' : Option Nat) (M : AHeap) : lenK M (.sl e' s') a = some (.v (.int .i64 ks.length)) := by
  rcases h.row with ⟨rfl, rfl⟩ | ⟨ba, rfl, _, _, _⟩ <;> rfl
theorem AllAt.held {V : List Kn} {ks : List (List UInt8 × Nat)} {a : AV} {L H : AHeap} (h : AllAt V ks a L H) : HeldAt 50 2 L (ks.map (rcell V)) a := by
  rcases h.row with ⟨rfl, rfl⟩ | ⟨ba, rfl, h2, _, _⟩
  · exact .inl rfl
  · exact .inr ⟨ba, by rw [List.length_map], h2⟩
theorem keys_len (V : List Kn) : (keysOf V).length ≤ V.length := by
  have := dedup_len (V.map rkey)
  rwa [List.length_map] at this
theorem users_len (V : List Kn) (q : List UInt8) : (usersOf V q).length ≤ V.length := by
  have := dedup_len ((V.filter fun k => decide (rkey k = q)).map (·.ev.sender))
  rw [List.length_map] at this
  exact Nat.le_trans this (List.length_filter_le _ _)
theorem senders_len (V : List Kn) (q : List UInt8) : (sendersOf V q).length ≤ V.length := by rw [sendersOf, sortL_length]; exact users_len V q
theorem senders_nil {V : List Kn} {q : List UInt8} (h : q ∉ keysOf V) : sendersOf V q = [] := by
  have : usersOf V q = [] := List.eq_nil_iff_forall_not_mem.2 fun u hu => by
    obtain ⟨k', h1, h2, _⟩ := mem_users.1 hu
    exact h (mem_keys.2 ⟨k', h1, h2⟩)
  rw [sendersOf, this]; simp [sortL]
/-- the row of counts, one of whose users' rows was written anew -/
theorem AllAt.put {V : List Kn} {ks : List (List UInt8 × Nat)} {ba j b' : Nat} {L L1 L3 H : AHeap} {k : Kn} {n : Nat} {ua : AV} (hA : AllAt V ks (.row ba 2 ks.length) L H) (hj : ks[j]? = some (rkey k, n))
    (hua : ua = .row n 1 (sendersOf V (rkey k)).length) (h1 : L3.get ba = some (.row 50 2 false ((ks.map (rcell V)).set j [.s (rkey k), .row b' 1 (sendersOf (V ++ [k]) (rkey k)).length])))
    (h2 : L3.get b' = some (.row 9 1 false ((sendersOf (V ++ [k]) (rkey k)).map strCells))) (h3 : ∀ c o, L.get c = some o → c ≠ ba → c ≠ n → L3.get c = some o ∧ c ≠ b') (h4 : b' ≠ ba) :
    AllAt (V ++ [k]) (ks.set j (rkey k, b')) (.row ba 2 (ks.set j (rkey k, b')).length) L3 H := by
  have hjl := (List.getElem?_eq_some_iff.1 hj).1
  have hkm : rkey k ∈ keysOf V := by rw [← hA.keys]; exact List.mem_map.2 ⟨_, List.mem_of_getElem? hj, rfl⟩
  have hba : H.get ba = none ∧ (∀ p ∈ ks, p.2 ≠ ba) := by
    rcases hA.row with ⟨rfl, _⟩ | ⟨ba', e, _, q1, q2⟩
    · simp at hjl
    · cases e; exact ⟨q1, q2⟩
  have hnd : (ks.map (·.1)).Nodup := by rw [hA.keys]; exact (dedup_ok _).1
  have hother : ∀ i p, ks[i]? = some p → i ≠ j → p.1 ≠ rkey k ∧ p.2 ≠ n := fun i p hi hij => by
    refine ⟨fun e => hij ?_, fun e => hij ?_⟩
    · exact nodup_inj (a := p.1) hnd (by rw [List.getElem?_map, hi]; rfl) (by rw [List.getElem?_map, hj, e]; rfl)
    · exact nodup_inj (a := p.2) hA.apart (by rw [List.getElem?_map, hi]; rfl) (by rw [List.getElem?_map, hj, e]; rfl)
  have hn0 := (hA.users _ (List.mem_of_getElem? hj)).2
  have hHb : H.get b' = none := by
    cases hh : H.get b' with
    | none => rfl
    | some o =>
      have hne1 : b' ≠ ba := h4
      have hne2 : b' ≠ n := by rintro rfl; rw [hn0] at hh; cases hh
      exact absurd rfl (h3 b' o (hA.ext _ _ hh) hne1 hne2).2
  have hmem : ∀ p ∈ ks.set j (rkey k, b'), p = (rkey k, b') ∨ (p ∈ ks ∧ p.1 ≠ rkey k ∧ p.2 ≠ n) := fun p hp => by
    obtain ⟨i, hi⟩ := List.mem_iff_getElem?.1 hp
    rw [List.getElem?_set] at hi
    split at hi
    · left; simp at hi; exact hi.symm
    · rename_i hij
      exact .inr ⟨List.mem_of_getElem? hi, hother i p hi (Ne.symm hij)⟩
  refine ⟨?_, .inr ⟨ba, rfl, ?_, hba.1, fun p hp => ?_⟩, fun p hp => ?_, ?_, fun c o hc => ?_⟩
  · rw [keys_snoc, dstep, if_pos hkm, ← hA.keys, List.map_set]
    apply List.ext_getElem?
    intro i
    rw [List.getElem?_set]
    split
    · rename_i e; subst e
      rw [if_pos (by rw [List.length_map]; exact hjl), List.getElem?_map, hj]; rfl
    · rfl
  · rw [h1]
    congr 2
    rw [List.map_set]
    apply List.ext_getElem?
    intro i
    rw [List.getElem?_set, List.getElem?_set]
    split
    · rw [List.length_map, List.length_map]; rfl
    · rename_i hij
      rw [List.getElem?_map, List.getElem?_map]
      cases hi : ks[i]? with
      | none => rfl
      | some p =>
        have := hother i p hi (Ne.symm hij)
        simp only [Option.map_some, rcell, senders_other V k (Ne.symm this.1)]
  · rcases hmem p hp with rfl | ⟨hp, _⟩
    · exact h4
    · exact hba.2 p hp
  · rcases hmem p hp with rfl | ⟨hp, hp1, hp2⟩
    · exact ⟨h2, hHb⟩
    · obtain ⟨q1, q2⟩ := hA.users p hp
      rw [senders_other V k (Ne.symm hp1)]
      exact ⟨(h3 _ _ q1 (hba.2 p hp) hp2).1, q2⟩
  · rw [List.map_set]
    have hb : ∀ i, i ≠ j → (ks.map (·.2))[i]? ≠ some b' := fun i hij e => by
      rw [List.getElem?_map] at e
      obtain ⟨p, hp, hpe⟩ := Option.map_eq_some_iff.1 e
      have hm : p ∈ ks := List.mem_of_getElem? hp
      have q := hA.users _ hm
      have hne := (hother i p hp hij).2
      exact (h3 _ _ q.1 (hba.2 _ hm) hne).2 hpe
    refine nodup_of_inj fun x y z hx hy => ?_
    rw [List.getElem?_set] at hx hy
    by_cases e1 : j = x
    · subst e1
      rw [if_pos rfl, if_pos (by simpa using hjl)] at hx
      cases hx
      by_cases e2 : j = y
      · exact e2
      · rw [if_neg e2] at hy; exact absurd hy (hb y (Ne.symm e2))
    · rw [if_neg e1] at hx
      by_cases e2 : j = y
      · subst e2
        rw [if_pos rfl, if_pos (by simpa using hjl)] at hy
        cases hy
        exact absurd hx (hb x (Ne.symm e1))
      · rw [if_neg e2] at hy
        exact nodup_inj hA.apart hx hy
  · have hne1 : c ≠ ba := by rintro rfl; rw [hba.1] at hc; cases hc
    have hne2 : c ≠ n := by rintro rfl; rw [hn0] at hc; cases hc
    exact (h3 c o (hA.ext _ _ hc) hne1 hne2).1
/-- a count more -/
theorem AllAt.push {V : List Kn} {ks : List (List UInt8 × Nat)} {a : AV} {ba b' : Nat} {L L1 L3 H : AHeap} {k : Kn} (hA : AllAt V ks a L H) (hk : rkey k ∉ keysOf V)
    (hp : ∀ c o, L.get c = some o → (∀ b, a = .row b 2 ks.length → c ≠ b) → L1.get c = some o ∧ c ≠ ba)
    (h1 : L3.get ba = some (.row 50 2 false (ks.map (rcell V) ++ [[.s (rkey k), .row b' 1 (sendersOf (V ++ [k]) (rkey k)).length]])))
    (h2 : L3.get b' = some (.row 9 1 false ((sendersOf (V ++ [k]) (rkey k)).map strCells))) (h3 : ∀ c o, L1.get c = some o → c ≠ ba → L3.get c = some o ∧ c ≠ b') (h4 : b' ≠ ba) :
    AllAt (V ++ [k]) (ks ++ [(rkey k, b')]) (.row ba 2 (ks ++ [(rkey k, b')]).length) L3 H := by
  have hkeep : ∀ c o, L.get c = some o → (∀ b, a = .row b 2 ks.length → c ≠ b) → L3.get c = some o ∧ c ≠ ba ∧ c ≠ b' := fun c o hc hb => by
    obtain ⟨q1, q2⟩ := hp c o hc hb
    obtain ⟨q3, q4⟩ := h3 c o q1 q2
    exact ⟨q3, q2, q4⟩
  have hrow : ∀ c o, H.get c = some o → (∀ b, a = .row b 2 ks.length → c ≠ b) := fun c o hc b hb => by
    rcases hA.row with ⟨_, e⟩ | ⟨ba', e, _, q1, _⟩
    · rw [e] at hb; cases hb
    · rw [e] at hb; cases hb
      rintro rfl; rw [q1] at hc; cases hc
  have hrow2 : ∀ p ∈ ks, (∀ b, a = .row b 2 ks.length → p.2 ≠ b) := fun p hp b hb => by
    rcases hA.row with ⟨e, _⟩ | ⟨ba', e, _, _, q2⟩
    · subst e; cases hp
    · rw [e] at hb; cases hb; exact q2 p hp
  have hHn : ∀ x, (∀ c o, H.get c = some o → c ≠ x) → H.get x = none := fun x hx => by
    cases hh : H.get x with
    | none => rfl
    | some o => exact absurd rfl (hx x o hh)
  have hHba : H.get ba = none := hHn ba fun c o hc => (hkeep c o (hA.ext _ _ hc) (hrow c o hc)).2.1
  have hHb : H.get b' = none := hHn b' fun c o hc => (hkeep c o (hA.ext _ _ hc) (hrow c o hc)).2.2
  have hpk : ∀ p ∈ ks, rkey k ≠ p.1 := fun p hp e => hk (by rw [← hA.keys, e]; exact List.mem_map.2 ⟨p, hp, rfl⟩)
  refine ⟨?_, .inr ⟨ba, rfl, ?_, hHba, fun p hp => ?_⟩, fun p hp => ?_, ?_, fun c o hc => (hkeep c o (hA.ext _ _ hc) (hrow c o hc)).1⟩
  · rw [keys_snoc, dstep, if_neg hk, List.map_append, hA.keys]; rfl
  · rw [h1, List.map_append]
    congr 3
    refine List.map_congr_left fun p hp => ?_
    rw [rcell, rcell, senders_other V k (hpk p hp)]
  · rcases List.mem_append.1 hp with hp | hp
    · exact (hkeep _ _ (hA.users p hp).1 (hrow2 p hp)).2.1
    · simp at hp; subst hp; exact h4
  · rcases List.mem_append.1 hp with hp | hp
    · obtain ⟨q1, q2⟩ := hA.users p hp
      rw [senders_other V k (hpk p hp)]
      exact ⟨(hkeep _ _ q1 (hrow2 p hp)).1, q2⟩
    · simp at hp; subst hp; exact ⟨h2, hHb⟩
  · rw [List.map_append]
    refine List.nodup_append.2 ⟨hA.apart, by simp, fun x hx y hy => ?_⟩
    obtain ⟨p, hp, rfl⟩ := List.mem_map.1 hx
    simp at hy; subst hy
    exact (hkeep _ _ (hA.users p hp).1 (hrow2 p hp)).2.2
end Go.Proofs.Ytmloandpjbimkaa
