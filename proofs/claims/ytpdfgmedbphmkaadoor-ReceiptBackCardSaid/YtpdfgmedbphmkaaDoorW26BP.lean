/-
  A board's content told again: the plain part (for the seat that has no document's board).
-/
import Derived.Test.YtpdfgmedbphmkaaDoorW26BN
set_option linter.unusedSimpArgs false
set_option linter.unusedVariables false
set_option maxRecDepth 100000
namespace Go.Proofs.YtpdfgmedbphmkaaDoor
open Go Go.AL

theorem occ_one (t : List UInt8) (c : UInt8) (j : Nat) : Lib.occAt t [c] j = decide (t[j]? = some c) := by
  rw [Lib.occAt]
  have h : (t.drop j)[0]? = t[j]? := by rw [List.getElem?_drop, Nat.add_zero]
  cases hd : t.drop j with
  | nil => rw [hd] at h; rw [← h]; simp
  | cons b r =>
    rw [hd] at h
    rw [← h]
    by_cases e : c = b
    · subst e; simp [List.isPrefixOf]
    · simp [List.isPrefixOf, e, Ne.symm e]
/-- every mark stands under its own user -/
def Own (ms : List (List UInt8 × Mark)) : Prop := ∀ u x, afind u ms = some x → x.user = u
theorem own_put1 {m : Mark} {ms : List (List UInt8 × Mark)} (h : Own ms) : Own (put1 m ms).2.2 := put1_all (Q := fun u x => x.user = u) h (fun _ => rfl)
theorem own_board (l : List Mark) : Own (boardOf l) := boardOf_all (Q := fun u x => x.user = u) (fun _ _ _ => rfl)
def SortedU (L : List Mark) : Prop := L.Pairwise fun a b => a.user < b.user
theorem lt_asymm' {a b : List UInt8} (h : a < b) (k : b < a) : False := List.lt_irrefl a (List.lt_trans h k)
theorem sorted_ext : ∀ {L L' : List Mark}, SortedU L → SortedU L' → (∀ x, x ∈ L ↔ x ∈ L') → L = L'
  | [], [], _, _, _ => rfl
  | [], b :: L', _, _, h => by have := (h b).2 (by simp); cases this
  | a :: L, [], _, _, h => by have := (h a).1 (by simp); cases this
  | a :: L, b :: L', h1, h2, h => by
    have p1 := List.pairwise_cons.1 h1
    have p2 := List.pairwise_cons.1 h2
    have hab : a = b := by
      rcases List.mem_cons.1 ((h a).1 (by simp)) with e | ha
      · exact e
      · rcases List.mem_cons.1 ((h b).2 (by simp)) with e | hb
        · exact e.symm
        · exact (lt_asymm' (p1.1 b hb) (p2.1 a ha)).elim
    subst hab
    have htl : ∀ x, x ∈ L ↔ x ∈ L' := fun x => by
      constructor
      · intro hx
        rcases List.mem_cons.1 ((h x).1 (by simp [hx])) with e | hx'
        · subst e; exact (List.lt_irrefl _ (p1.1 x hx)).elim
        · exact hx'
      · intro hx
        rcases List.mem_cons.1 ((h x).2 (by simp [hx])) with e | hx'
        · subst e; exact (List.lt_irrefl _ (p2.1 x hx)).elim
        · exact hx'
    rw [sorted_ext p1.2 p2.2 htl]
theorem lt_or_eq' {a b : List UInt8} (h : a ≤ b) : a < b ∨ a = b := by
  by_cases h1 : a < b
  · exact .inl h1
  · exact .inr (List.le_antisymm h (show b ≤ a from h1))
theorem sortL_sorted {l : List (List UInt8)} (hn : l.Nodup) : (sortL l).Pairwise fun a b => a < b := by
  have h1 : (sortL l).Pairwise fun a b => decide (a ≤ b) = true := List.pairwise_mergeSort (le := fun x y => decide (x ≤ y)) (fun a b c h1 h2 => by simp at h1 h2 ⊢; exact List.le_trans h1 h2) (fun a b => by simp; exact List.le_total a b) l
  have h2 : (sortL l).Nodup := (sortL_perm l).nodup_iff.2 hn
  have h3 := List.Pairwise.and h1 h2
  exact h3.imp fun {a b} ⟨k1, k2⟩ => (lt_or_eq' (by simpa using k1)).resolve_right k2
theorem allOf_user {ms : List (List UInt8 × Mark)} (ho : Own ms) : (allOf ms).map Mark.user = sortL (ms.map (·.1)) := by
  rw [allOf, List.map_map]
  have : ∀ u ∈ sortL (ms.map (·.1)), (Mark.user ∘ fun u => getA u ms) u = u := fun u hu => by
    obtain ⟨x, hx⟩ := afind_mem ((sortL_perm _).mem_iff.1 hu)
    simp only [Function.comp, getA, hx, Option.getD_some]
    exact ho u x hx
  rw [List.map_congr_left this, List.map_id']
theorem allOf_sorted {ms : List (List UInt8 × Mark)} (hn : Nod ms) (ho : Own ms) : SortedU (allOf ms) := by
  have h := sortL_sorted hn
  rw [← allOf_user ho, List.pairwise_map] at h
  exact h
theorem ascii_valid : ∀ (n : Nat) (l : List UInt8), l.length ≤ n → (∀ c ∈ l, c.toNat < 128) → Lib.validD l = true := fun n => by
  induction n with
  | zero => intro l hl h; obtain rfl : l = [] := List.length_eq_zero_iff.1 (by omega); rfl
  | succ n ih =>
    intro l hl h
    cases l with
    | nil => rfl
    | cons b l =>
      have hb : b.toNat < 128 := h b (by simp)
      have hd : docL (b :: l) = 1 := by
        rw [docL]
        simp only [List.getD_cons_zero]
        rw [docN]
        simp [hb]
      rw [docL_valid (by simp), hd]
      simp only [List.drop_succ_cons, List.drop_zero]
      rw [if_neg (by decide)]
      exact ih l (by simp at hl; omega) (fun c hc => h c (by simp [hc]))
theorem small_ascii {c : UInt8} (h : smallB (c.toNat : Int) = true) : c.toNat < 128 := by
  simp [smallB] at h; omega
theorem local_ascii {l : List UInt8} (h : isLocal l = true) : ∀ c ∈ l, c.toNat < 128 := fun c hc => by
  rw [isLocal, ofB] at h
  simp only [Bool.and_eq_true, List.all_eq_true] at h
  have := h.2 c hc
  simp only [localB, Bool.or_eq_true, decide_eq_true_eq] at this
  rcases this with (h | h) | h
  · exact small_ascii h
  · omega
  · omega
theorem server_ascii {l : List UInt8} (h : isServer l = true) : ∀ c ∈ l, c.toNat < 128 := fun c hc => by
  rw [isServer, ofB] at h
  simp only [Bool.and_eq_true, List.all_eq_true] at h
  have := h.2 c hc
  simp only [serverB, Bool.or_eq_true, decide_eq_true_eq] at this
  rcases this with h | h
  · exact small_ascii h
  · omega
theorem user_valid {l : List UInt8} (h : (idCut [64] l).isSome = true) : Lib.validD l = true := by
  refine ascii_valid l.length l (Nat.le_refl _) (fun c hc => ?_)
  unfold idCut at h
  cases hp : hasPre l [64] with
  | false => simp [hp] at h
  | true =>
    obtain ⟨w, rfl⟩ : ∃ w, l = 64 :: w := by
      cases l with
      | nil => cases hp
      | cons b w => simp [hasPre] at hp; exact ⟨w, by rw [hp]⟩
    simp only [hp, if_true, Bool.true_and, List.length_singleton, List.drop_succ_cons, List.drop_zero] at h
    rcases Lib.index_spec w [58] with ⟨h1, _⟩ | ⟨i, h1, h2, h3, _⟩
    · have hcut : Lib.cut w [58] = (w, [], false) := by rw [Lib.cut, h1, if_neg (by decide)]
      rw [hcut] at h; simp at h
    · rw [occ_one] at h3
      have h3 : w[i]? = some 58 := by simpa using h3
      have hcut : Lib.cut w [58] = (w.take i, w.drop (i + 1), true) := by rw [Lib.cut, h1, if_pos (by omega)]; rfl
      rw [hcut] at h
      simp only [Bool.true_and] at h
      have hb : (isLocal (w.take i) && isServer (w.drop (i + 1))) = true := by
        cases hx : (isLocal (w.take i) && isServer (w.drop (i + 1))) with
        | true => rfl
        | false => rw [hx] at h; simp at h
      simp only [Bool.and_eq_true] at hb
      obtain ⟨hi, he⟩ := List.getElem?_eq_some_iff.1 h3
      have hw : w = w.take i ++ 58 :: w.drop (i + 1) := by
        rw [← he, ← List.drop_eq_getElem_cons hi, List.take_append_drop]
      rcases List.mem_cons.1 hc with rfl | hc
      · decide
      · rw [hw] at hc
        rcases List.mem_append.1 hc with hc | hc
        · exact local_ascii hb.1 c hc
        · rcases List.mem_cons.1 hc with rfl | hc
          · decide
          · exact server_ascii hb.2 c hc
def pm (p : List UInt8 × J) : Option Mark := (pairOf p.2).map fun n => ⟨p.1, n.1, n.2⟩
def putAll (l : List Mark) (ms : List (List UInt8 × Mark)) : List (List UInt8 × Mark) := l.foldl (fun ms m => (put1 m ms).2.2) ms
theorem recFold_iff : ∀ (l : List (List UInt8 × J)) (ms ms' : List (List UInt8 × Mark)), recFold l ms = some ms' ↔ (∀ p ∈ l, ∃ m, pm p = some m ∧ okMark m = true) ∧ ms' = putAll (l.filterMap pm) ms
  | [], ms, ms' => ⟨fun h => ⟨fun p hp => absurd hp List.not_mem_nil, (Option.some.inj h).symm⟩, fun h => by rw [h.2]; rfl⟩
  | p :: l, ms, ms' => by
    rw [recFold]
    cases hp : pairOf p.2 with
    | none =>
      have hpm : pm p = none := by rw [pm, hp]; rfl
      constructor
      · intro h; cases h
      · rintro ⟨h, _⟩
        obtain ⟨m, hm, _⟩ := h p (by simp)
        rw [hpm] at hm; cases hm
    | some n =>
      have hpm : pm p = some ⟨p.1, n.1, n.2⟩ := by rw [pm, hp]; rfl
      show (if okMark ⟨p.1, n.1, n.2⟩ = true then recFold l (put1 ⟨p.1, n.1, n.2⟩ ms).2.2 else none) = some ms' ↔ _
      rw [List.filterMap_cons, hpm]
      by_cases ho : okMark ⟨p.1, n.1, n.2⟩ = true
      · rw [if_pos ho, recFold_iff l]
        constructor
        · rintro ⟨h1, h2⟩
          refine ⟨fun q hq => ?_, h2⟩
          rcases List.mem_cons.1 hq with rfl | hq
          · exact ⟨_, hpm, ho⟩
          · exact h1 q hq
        · rintro ⟨h1, h2⟩
          exact ⟨fun q hq => h1 q (by simp [hq]), h2⟩
      · rw [if_neg ho]
        constructor
        · intro h; cases h
        · rintro ⟨h, _⟩
          obtain ⟨m, hm, hom⟩ := h p (by simp)
          rw [hpm] at hm; cases hm; exact absurd hom ho
theorem putAll_board (l : List Mark) : putAll l [] = boardOf l := rfl
/-- marks of users that differ: the board has them all -/
theorem all_of_distinct {l : List Mark} (hn : (l.map Mark.user).Nodup) (hok : ∀ m ∈ l, okMark m = true) {m : Mark} : m ∈ allOf (boardOf l) ↔ m ∈ l := by
  constructor
  · exact fun h => (all_mem h).1
  · intro h
    obtain ⟨x, h1, h2, h3, _⟩ := Cov.board l m h (hok m h)
    have hx := (all_mem h1).1
    have : x = m := by
      obtain ⟨i, hi, rfl⟩ := List.mem_iff_getElem.1 hx
      obtain ⟨j, hj, rfl⟩ := List.mem_iff_getElem.1 h
      have : i = j := (List.getElem_inj (xs := l.map Mark.user) (h₀ := by simpa using hi) (h₁ := by simpa using hj) hn).1 (by simpa using h3)
      subst this; rfl
    rw [← this]; exact h1
theorem sorted_of {l : List Mark} (hs : (l.map Mark.user).Pairwise fun a b => a < b) : SortedU l := List.pairwise_map.1 hs
theorem pairOf_mark (m : Mark) : pairOf (markJ m) = some (m.at_, m.ts) := by
  rw [pairOf, markJ]; simp [J.keys, J.list, numJ, J.kind, J.int]
theorem range_map {α : Type} (l : List α) (d : α) : (List.range l.length).map (fun i => l.getD i d) = l := by
  refine List.ext_getElem (by simp) (fun i h1 h2 => ?_)
  simp [List.getElem?_eq_getElem h2]

theorem ord_of_sorted {j : J} (h5 : j.kind = 5) (hs : j.keys.Pairwise fun a b => a < b) (hlen : j.keys.length = j.list.length) (hl : ∀ x ∈ j.list, x.ord = x) : j.ord = j := by
  have hn : j.keys.Nodup := hs.imp fun h e => by subst e; exact List.lt_irrefl _ h
  have hp : placesOf j.keys = List.range j.keys.length := by
    refine (places_uniq hn (List.Perm.refl _) ?_).symm
    refine List.Pairwise.imp_of_mem (fun {a b} ha hb hab => ?_) List.pairwise_lt_range
    rw [List.mem_range] at ha hb
    rw [List.getD_eq_getElem?_getD, List.getD_eq_getElem?_getD, List.getElem?_eq_getElem ha, List.getElem?_eq_getElem hb]
    exact List.le_of_lt (List.pairwise_iff_getElem.1 hs a b ha hb hab)
  have hm : j.list.map J.ord = j.list := by
    have : j.list.map J.ord = j.list.map id := List.map_congr_left hl
    rw [this, List.map_id]
  rw [ord_eq, if_pos h5, hp, hm, range_map, hlen, range_map]
  exact J.ext' ⟨h5.symm, rfl, rfl, rfl, rfl⟩
theorem num_ord (n : Int) : (numJ n).ord = numJ n := by rw [ord_eq, if_neg (by simp [numJ, J.kind])]; rfl
theorem mark_ord (m : Mark) : (markJ m).ord = markJ m := by
  refine ord_of_sorted rfl ?_ rfl (fun x hx => ?_)
  · show [[97, 116], [116, 115]].Pairwise fun a b : List UInt8 => a < b
    decide
  · simp only [markJ, J.list, List.mem_cons, List.not_mem_nil, or_false] at hx
    rcases hx with rfl | rfl <;> exact num_ord _
theorem cont_ord {L : List Mark} (h : SortedU L) : (contentJ L).ord = contentJ L := by
  refine ord_of_sorted rfl ?_ ?_ (fun x hx => ?_)
  · exact List.pairwise_map.2 h
  · simp [contentJ, J.keys, J.list]
  · simp only [contentJ, J.list, List.mem_map] at hx
    obtain ⟨m, _, rfl⟩ := hx
    exact mark_ord m
theorem num_good {n : Int} {d : Nat} (h : fitsB n = true) : goodB (d + 1) (numJ n) = true := by
  simp only [fitsB, Bool.and_eq_true, decide_eq_true_eq] at h
  rw [goodB, Bool.and_eq_true]
  refine ⟨?_, rfl⟩
  have h1 : -9007199254740991 ≤ n := by omega
  simp only [shapedB, numJ, J.kind, J.int, J.text, J.keys, J.list]
  simp [h.2, h1]
theorem mark_good {m : Mark} {d : Nat} (h : okMark m = true) : goodB (d + 2) (markJ m) = true := by
  simp only [okMark, Bool.and_eq_true] at h
  have v1 : Lib.validD [97, 116] = true := ascii_valid 2 _ (by decide) (by decide)
  have v2 : Lib.validD [116, 115] = true := ascii_valid 2 _ (by decide) (by decide)
  rw [goodB, Bool.and_eq_true]
  constructor
  · simp [shapedB, markJ, J.kind, J.int, J.text, J.keys, J.list, namedB, v1, v2]
  · simp only [markJ, J.list, List.all_cons, List.all_nil, Bool.and_true, num_good h.1.2, num_good h.2]
theorem cont_good {L : List Mark} (hs : SortedU L) (hok : ∀ m ∈ L, okMark m = true) : goodB 12 (contentJ L) = true := by
  rw [goodB, Bool.and_eq_true]
  constructor
  · have hn : (L.map Mark.user).Nodup := (List.pairwise_map.2 hs : (L.map Mark.user).Pairwise fun a b => a < b).imp fun h e => by subst e; exact List.lt_irrefl _ h
    have hv : ∀ k ∈ L.map Mark.user, Lib.validD k = true := fun k hk => by
      obtain ⟨m, hm, rfl⟩ := List.mem_map.1 hk
      have := hok m hm
      simp only [okMark, Bool.and_eq_true] at this
      exact user_valid this.1.1
    simp only [shapedB, contentJ, J.kind, J.int, J.text, J.keys, J.list, namedB]
    simp [hn]
    simpa using hv
  · rw [List.all_eq_true]
    intro x hx
    simp only [contentJ, J.list, List.mem_map] at hx
    obtain ⟨m, hm, rfl⟩ := hx
    exact mark_good (d := 9) (hok m hm)
theorem cont_fit {L : List Mark} (hl : L.length ≤ 1000000) (hu : ∀ m ∈ L, m.user.length ≤ 200) : J.Fit (contentJ L) ∧ ∀ k ∈ (contentJ L).keys, k.length ≤ 200 := by
  have hk : ∀ k ∈ (contentJ L).keys, k.length ≤ 200 := fun k hk => by
    simp only [contentJ, J.keys, List.mem_map] at hk
    obtain ⟨m, hm, rfl⟩ := hk
    exact hu m hm
  have hn : ∀ n : Int, J.Fit (numJ n) := fun n => fit_eq.2 ⟨⟨by simp [numJ, J.keys], by simp [numJ, J.list]⟩, by simp [numJ, J.text], by simp [numJ, J.keys], by simp [numJ, J.list]⟩
  refine ⟨fit_eq.2 ⟨⟨by simp [contentJ, J.keys]; omega, by simp [contentJ, J.list]; omega⟩, by simp [contentJ, J.text], fun k hk2 => Nat.le_trans (hk k hk2) (by decide), fun x hx => ?_⟩, hk⟩
  simp only [contentJ, J.list, List.mem_map] at hx
  obtain ⟨m, hm, rfl⟩ := hx
  refine fit_eq.2 ⟨⟨by simp [markJ, J.keys], by simp [markJ, J.list]⟩, by simp [markJ, J.text], by simp [markJ, J.keys], fun x hx => ?_⟩
  simp only [markJ, J.list, List.mem_cons, List.not_mem_nil, or_false] at hx
  rcases hx with rfl | rfl <;> exact hn _
/-- a board's content tells a board of the same marks -/
theorem back_parse (l : List Mark) : ∃ ms', recParse (contentJ (allOf (boardOf l))) = some ms' ∧ allOf ms' = allOf (boardOf l) ∧ ms' = boardOf (allOf (boardOf l)) := by
  have hs : SortedU (allOf (boardOf l)) := allOf_sorted (nod_board l) (own_board l)
  have hok : ∀ m ∈ allOf (boardOf l), okMark m = true := fun m hm => (all_mem hm).2.1
  generalize allOf (boardOf l) = L at hs hok ⊢
  refine ⟨boardOf L, ?_, ?_, rfl⟩
  · rw [recParse, if_pos (show (contentJ L).kind = 5 from rfl), if_pos (cont_good hs hok), cont_ord hs]
    have hz : (contentJ L).keys.zip (contentJ L).list = L.map fun m => (m.user, markJ m) := List.zip_map' ..
    rw [hz]
    refine (recFold_iff _ _ _).2 ⟨fun p hp => ?_, ?_⟩
    · obtain ⟨m, hm, rfl⟩ := List.mem_map.1 hp
      exact ⟨m, by rw [pm, pairOf_mark]; rfl, hok m hm⟩
    · have : (L.map fun m => (m.user, markJ m)).filterMap pm = L := by
        rw [List.filterMap_map]
        have e : (pm ∘ fun m => (m.user, markJ m)) = some := by
          funext m
          show pm (m.user, markJ m) = some m
          rw [pm, pairOf_mark]; rfl
        rw [e, List.filterMap_some]
      rw [this]; rfl
  · have hn : (L.map Mark.user).Nodup := (List.pairwise_map.2 hs : (L.map Mark.user).Pairwise fun a b => a < b).imp fun h e => by subst e; exact List.lt_irrefl _ h
    exact sorted_ext (allOf_sorted (nod_board L) (own_board L)) hs (fun x => all_of_distinct hn hok)
end Go.Proofs.YtpdfgmedbphmkaaDoor
