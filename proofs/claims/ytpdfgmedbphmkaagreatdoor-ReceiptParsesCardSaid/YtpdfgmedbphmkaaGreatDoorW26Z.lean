/-
  Which board a content tells: the program's answer and the document's are the same. The plain part.
-/
import Derived.Test.YtpdfgmedbphmkaaGreatDoorW26R
import Derived.Test.YtpdfgmedbphmkaaGreatDoorPO
set_option linter.unusedSimpArgs false
set_option linter.unusedVariables false
set_option maxRecDepth 100000
namespace Go.Proofs.YtpdfgmedbphmkaaGreatDoor
open Go Go.AL

def pm (p : List UInt8 × J) : Option Mark := (pairOf p.2).map fun n => ⟨p.1, n.1, n.2⟩
def putAll (l : List Mark) (ms : List (List UInt8 × Mark)) : List (List UInt8 × Mark) := l.foldl (fun ms m => (put1 m ms).2.2) ms
theorem recFold_iff : ∀ (l : List (List UInt8 × J)) (ms ms' : List (List UInt8 × Mark)), recFold l ms = some ms' ↔ (∀ p ∈ l, ∃ m, pm p = some m ∧ okMark m = true) ∧ ms' = putAll (l.filterMap pm) ms
  | [], ms, ms' => ⟨fun h => ⟨fun p hp => absurd hp List.not_mem_nil, (Option.some.inj h).symm⟩, fun h => by rw [h.2]; rfl⟩
  | p :: l, ms, ms' => by
    rw [recFold]
    cases hp : pairOf p.2 with
    | none =>
      have hpm : pm p = none := by rw [pm, hp]; rfl
      constructor
      · intro h; cases h
      · rintro ⟨h, _⟩
        obtain ⟨m, hm, _⟩ := h p (by simp)
        rw [hpm] at hm; cases hm
    | some n =>
      have hpm : pm p = some ⟨p.1, n.1, n.2⟩ := by rw [pm, hp]; rfl
      show (if okMark ⟨p.1, n.1, n.2⟩ = true then recFold l (put1 ⟨p.1, n.1, n.2⟩ ms).2.2 else none) = some ms' ↔ _
      rw [List.filterMap_cons, hpm]
      by_cases ho : okMark ⟨p.1, n.1, n.2⟩ = true
      · rw [if_pos ho, recFold_iff l]
        constructor
        · rintro ⟨h1, h2⟩
          refine ⟨fun q hq => ?_, h2⟩
          rcases List.mem_cons.1 hq with rfl | hq
          · exact ⟨_, hpm, ho⟩
          · exact h1 q hq
        · rintro ⟨h1, h2⟩
          exact ⟨fun q hq => h1 q (by simp [hq]), h2⟩
      · rw [if_neg ho]
        constructor
        · intro h; cases h
        · rintro ⟨h, _⟩
          obtain ⟨m, hm, hom⟩ := h p (by simp)
          rw [hpm] at hm; cases hm; exact absurd hom ho
theorem refFold_iff : ∀ (l : List (List UInt8 × J)) (ms ms' : List (List UInt8 × Mark)), refFold l ms = some ms' ↔ (∀ p ∈ l, okMark (rmark p) = true) ∧ ms' = putAll (l.map rmark) ms
  | [], ms, ms' => ⟨fun h => ⟨fun p hp => absurd hp List.not_mem_nil, (Option.some.inj h).symm⟩, fun h => by rw [h.2]; rfl⟩
  | p :: l, ms, ms' => by
    rw [refFold]
    by_cases ho : okMark (rmark p) = true
    · rw [if_pos ho, refFold_iff l]
      constructor
      · rintro ⟨h1, h2⟩
        refine ⟨fun q hq => ?_, h2⟩
        rcases List.mem_cons.1 hq with rfl | hq
        · exact ho
        · exact h1 q hq
      · rintro ⟨h1, h2⟩
        exact ⟨fun q hq => h1 q (by simp [hq]), h2⟩
    · rw [if_neg ho]
      constructor
      · intro h; cases h
      · rintro ⟨h, _⟩; exact absurd (h p (by simp)) ho
theorem putAll_board (l : List Mark) : putAll l [] = boardOf l := rfl
/-- marks of users that differ: the board has them all -/
theorem all_of_distinct {l : List Mark} (hn : (l.map Mark.user).Nodup) (hok : ∀ m ∈ l, okMark m = true) {m : Mark} : m ∈ allOf (boardOf l) ↔ m ∈ l := by
  constructor
  · exact fun h => (all_mem h).1
  · intro h
    obtain ⟨x, h1, h2, h3, _⟩ := Cov.board l m h (hok m h)
    have hx := (all_mem h1).1
    have : x = m := by
      obtain ⟨i, hi, rfl⟩ := List.mem_iff_getElem.1 hx
      obtain ⟨j, hj, rfl⟩ := List.mem_iff_getElem.1 h
      have : i = j := (List.getElem_inj (xs := l.map Mark.user) (h₀ := by simpa using hi) (h₁ := by simpa using hj) hn).1 (by simpa using h3)
      subst this; rfl
    rw [← this]; exact h1
theorem sorted_of {l : List Mark} (hs : (l.map Mark.user).Pairwise fun a b => a < b) : SortedU l := List.pairwise_map.1 hs
theorem numJ_of {x : J} (h : shapedB Lib.validD x = true) (h2 : x.kind = 2) : x = numJ x.int := by
  have : x.keys = [] ∧ x.list = [] := shaped_none h (by omega) (by omega)
  have ht : x.text = [] := by simp [shapedB, h2] at h; exact h.1.1.2
  exact J.ext' ⟨h2, rfl, ht, this.1, this.2⟩
theorem markJ_of {n : Nat} {x : J} {u : List UInt8} {a b : Int} (hg : goodB n x = true) (hp : pairOf x = some (a, b)) : x = markJ ⟨u, a, b⟩ := by
  have hs := good_shaped hg
  rw [pairOf] at hp
  split at hp
  · rename_i hk
    have h5 : x.kind = 5 := by
      by_cases h5 : x.kind = 5
      · exact h5
      · by_cases h4 : x.kind = 4
        · rw [shaped_list hs h4] at hk; cases hk
        · rw [(shaped_none hs h4 h5).1] at hk; cases hk
    have hi : x.int = 0 ∧ x.text = [] := by simp [shapedB, h5] at hs; exact ⟨hs.1.1.2, hs.1.2⟩
    split at hp
    · rename_i a0 a1 hl
      split at hp
      · rename_i hk2
        cases hp
        obtain ⟨m, _, hgl⟩ := good_list hg
        have g0 := numJ_of (good_shaped (hgl a0 (by rw [hl]; simp))) hk2.1
        have g1 := numJ_of (good_shaped (hgl a1 (by rw [hl]; simp))) hk2.2
        refine J.ext' ⟨h5, hi.1, hi.2, hk, ?_⟩
        rw [hl]
        show [a0, a1] = [numJ a0.int, numJ a1.int]
        rw [← g0, ← g1]
      · cases hp
    · cases hp
  · cases hp
theorem pairOf_mark (m : Mark) : pairOf (markJ m) = some (m.at_, m.ts) := by
  rw [pairOf, markJ]; simp [J.keys, J.list, numJ, J.kind, J.int]
theorem gi_ord (o : Option J) : gi (o.map J.ord) = gi o := by
  cases o with
  | none => rfl
  | some x => exact ord_int x
/-- what the document reads off a value that is a mark's -/
theorem rmark_of {n : Nat} {u : List UInt8} {y : J} {a b : Int} (hg : goodB n y = true) (h : y.ord = markJ ⟨u, a, b⟩) : rmark (u, y) = ⟨u, a, b⟩ := by
  have h5 : y.kind = 5 := by rw [← ord_kind, h]; rfl
  have e : ∀ k, gi (jGet y k) = gi (jGet (markJ ⟨u, a, b⟩) k) := fun k => by rw [← gi_ord, ← jGet_ord hg h5, h]
  rw [rmark]
  simp only [e]
  rfl
theorem good_ordW : ∀ {n : Nat} {j : J}, goodB n j = true → goodB n j.ord = true := fun {n} => by
  induction n with
  | zero => intro j h; cases h
  | succ n ih =>
    intro j h
    rw [goodB] at h ⊢
    simp only [Bool.and_eq_true, List.all_eq_true] at h ⊢
    refine ⟨shaped_ordW h.1, fun x hx => ?_⟩
    by_cases h5 : j.kind = 5
    · obtain ⟨y, hy, rfl⟩ := ord_listW h5 (shaped_map h.1 h5).1 hx
      exact ih (h.2 y hy)
    · rw [ord_eq, if_neg h5] at hx
      obtain ⟨y, hy, rfl⟩ := List.mem_map.1 hx
      exact ih (h.2 y hy)
theorem parse_rec {c : J} (hf : J.Fit c) {ms : List (List UInt8 × Mark)} (h : recParse c = some ms) : ∃ ms', refParse c = some ms' ∧ allOf ms' = allOf ms ∧ contentJ (allOf ms) = c.ord := by
  rw [recParse] at h
  split at h
  rotate_left
  · cases h
  rename_i h5
  split at h
  rotate_left
  · cases h
  rename_i hg
  obtain ⟨s1, s2, s3⟩ := shaped_map (good_shaped hg) h5
  obtain ⟨h1, h2⟩ := (recFold_iff _ _ _).1 h
  obtain ⟨n, hn, hgl⟩ := good_list hg
  have hk := ord_keys5 h5
  have hl := ord_list5 h5
  have hll : c.ord.keys.length = c.ord.list.length := by rw [hk, hl, List.length_map, List.length_map]
  have hgo : ∀ x ∈ c.ord.list, ∃ y ∈ c.list, x = y.ord := fun x hx => ord_listW h5 s1 hx
  -- each pair is a mark's
  have hm : ∀ p ∈ c.ord.keys.zip c.ord.list, ∃ m, pm p = some m ∧ okMark m = true ∧ p = (m.user, markJ m) := fun p hp => by
    obtain ⟨m, e1, e2⟩ := h1 p hp
    obtain ⟨u, x⟩ := p
    rw [pm] at e1
    obtain ⟨⟨a, b⟩, e3, e4⟩ := Option.map_eq_some_iff.1 e1
    obtain ⟨y, hy, rfl⟩ := hgo x (List.of_mem_zip hp).2
    have := markJ_of (u := u) (good_ordW (hgl y hy)) e3
    subst e4
    exact ⟨_, e1, e2, by rw [this]⟩
  obtain ⟨M, hM⟩ : ∃ M, M = (c.ord.keys.zip c.ord.list).filterMap pm := ⟨_, rfl⟩
  have hMz : M.map (fun m => (m.user, markJ m)) = c.ord.keys.zip c.ord.list := by
    rw [hM]
    clear hM h h1 h2
    generalize c.ord.keys.zip c.ord.list = z at hm
    induction z with
    | nil => rfl
    | cons p z ih =>
      obtain ⟨m, e1, _, e2⟩ := hm p (by simp)
      rw [List.filterMap_cons, e1, List.map_cons, ih (fun q hq => hm q (by simp [hq])), ← e2]
  have hMu : M.map Mark.user = c.ord.keys := by
    have := congrArg (List.map Prod.fst) hMz
    rw [List.map_map, List.map_fst_zip (by omega)] at this
    exact this
  have hMl : M.map markJ = c.ord.list := by
    have := congrArg (List.map Prod.snd) hMz
    rw [List.map_map, List.map_snd_zip (by omega)] at this
    exact this
  have hperm := ord_perm c.keys
  have hnd : (M.map Mark.user).Nodup := by rw [hMu, hk]; exact hperm.nodup_iff.2 s2
  have hok : ∀ m ∈ M, okMark m = true := fun m hmm => by
    rw [hM] at hmm
    obtain ⟨p, hp, e⟩ := List.mem_filterMap.1 hmm
    obtain ⟨m', e1, e2, _⟩ := hm p hp
    rw [e] at e1; cases e1; exact e2
  have hsort : SortedU M := sorted_of (by
    rw [hMu, hk]
    have h1 := ord_sorted c.keys
    have h2 : ((placesOf c.keys).map fun i => c.keys.getD i []).Pairwise (· ≠ ·) := hperm.nodup_iff.2 s2
    exact (h1.and h2).imp fun ⟨a, b⟩ => (lt_or_eq' a).elim id (fun e => absurd e b))
  have hms : ms = boardOf M := by rw [h2, hM]; rfl
  have hall : allOf ms = M := by
    rw [hms]
    exact sorted_ext (allOf_sorted (nod_board M) (own_board M)) hsort (fun x => all_of_distinct hnd hok)
  have hcon : contentJ (allOf ms) = c.ord := by
    rw [hall, contentJ, hMu, hMl]
    have ht : c.ord.text = [] ∧ c.ord.int = 0 := by
      have := good_shaped hg
      simp [shapedB, h5] at this
      exact ⟨by rw [ord_eq, if_pos h5]; exact this.1.2, by rw [ord_int]; exact this.1.1.2⟩
    exact J.ext' ⟨by rw [ord_kind, h5]; rfl, ht.2.symm, ht.1.symm, rfl, rfl⟩
  -- the document's marks
  have hrm : ∀ p ∈ c.keys.zip c.list, rmark p ∈ M := fun p hp => by
    obtain ⟨u, y⟩ := p
    obtain ⟨i, hi, he⟩ := List.mem_iff_getElem.1 hp
    rw [List.length_zip] at hi
    rw [List.getElem_zip] at he
    obtain ⟨e1, e2⟩ := Prod.mk.inj he
    have hz : (u, y.ord) ∈ c.ord.keys.zip c.ord.list := by
      rw [ord_zip h5]
      refine List.mem_map.2 ⟨i, pl_mem (by omega), ?_⟩
      rw [List.getD_eq_getElem?_getD, List.getD_eq_getElem?_getD, List.getElem?_map, List.getElem?_eq_getElem (by omega : i < c.keys.length), List.getElem?_eq_getElem (by omega : i < c.list.length), e1, e2]
      rfl
    obtain ⟨m, e3, e4, e5⟩ := hm _ hz
    obtain ⟨e6, e7⟩ := Prod.mk.inj e5
    have : rmark (u, y) = m := by
      rw [e6, rmark_of (u := m.user) (hgl y (List.of_mem_zip hp).2) e7]
    rw [this, hM]
    exact List.mem_filterMap.2 ⟨_, hz, e3⟩
  have hrok : ∀ p ∈ c.keys.zip c.list, okMark (rmark p) = true := fun p hp => hok _ (hrm p hp)
  obtain ⟨R, hR⟩ : ∃ R, R = (c.keys.zip c.list).map rmark := ⟨_, rfl⟩
  have href : refFold (c.keys.zip c.list) [] = some (boardOf R) := (refFold_iff _ _ _).2 ⟨hrok, by rw [hR]; rfl⟩
  have hRu : R.map Mark.user = c.keys := by
    rw [hR, List.map_map]
    have : (Mark.user ∘ rmark) = Prod.fst := by funext p; rfl
    rw [this, List.map_fst_zip (by omega)]
  have hRM : ∀ m ∈ M, m ∈ R := fun m hmm => by
    have hu : m.user ∈ R.map Mark.user := by
      rw [hRu]
      have : m.user ∈ M.map Mark.user := List.mem_map.2 ⟨m, hmm, rfl⟩
      rw [hMu, hk] at this
      exact hperm.mem_iff.1 this
    obtain ⟨r, hr, he⟩ := List.mem_map.1 hu
    have hrM : r ∈ M := by
      rw [hR] at hr
      obtain ⟨p, hp, rfl⟩ := List.mem_map.1 hr
      exact hrm p hp
    have : r = m := by
      obtain ⟨i, hi, rfl⟩ := List.mem_iff_getElem.1 hrM
      obtain ⟨j, hj, rfl⟩ := List.mem_iff_getElem.1 hmm
      have : i = j := (List.getElem_inj (xs := M.map Mark.user) (h₀ := by simpa using hi) (h₁ := by simpa using hj) hnd).1 (by simpa using he)
      subst this; rfl
    rw [← this]; exact hr
  have hbb : allOf (boardOf R) = allOf ms := by
    rw [hms]
    exact allOf_boards (Cov.sub fun r hr => by
      rw [hR] at hr
      obtain ⟨p, hp, rfl⟩ := List.mem_map.1 hr
      exact hrm p hp) (Cov.sub hRM)
  refine ⟨boardOf R, ?_, hbb, hcon⟩
  rw [refParse, if_pos h5, if_pos hg, href]
  show (if J.same (contentJ (allOf (boardOf R))) c.ord = true then some (boardOf R) else none) = _
  rw [hbb, hcon, if_pos (J.same_refl _)]
theorem parse_ref {c : J} {ms : List (List UInt8 × Mark)} (h : refParse c = some ms) : ∃ ms', recParse c = some ms' := by
  rw [refParse] at h
  split at h
  rotate_left
  · cases h
  rename_i h5
  split at h
  rotate_left
  · cases h
  rename_i hg
  split at h
  rotate_left
  · cases h
  rename_i ms0 hr
  split at h
  rotate_left
  · cases h
  rename_i hs
  obtain ⟨h1, h2⟩ := (refFold_iff _ _ _).1 hr
  rw [J.same_iff] at hs
  have hk : c.ord.keys = (allOf ms0).map Mark.user := by rw [← hs]; rfl
  have hl : c.ord.list = (allOf ms0).map markJ := by rw [← hs]; rfl
  have hall : ∀ p ∈ c.ord.keys.zip c.ord.list, ∃ m, pm p = some m ∧ okMark m = true := fun p hp => by
    rw [hk, hl, List.zip_map'] at hp
    obtain ⟨m, hm, rfl⟩ := List.mem_map.1 hp
    refine ⟨m, by rw [pm, pairOf_mark]; rfl, ?_⟩
    have h3 : ms0 = boardOf ((c.keys.zip c.list).map rmark) := h2
    rw [h3] at hm
    exact (all_mem hm).2.1
  exact ⟨putAll ((c.ord.keys.zip c.ord.list).filterMap pm) [], by rw [recParse, if_pos h5, if_pos hg]; exact (recFold_iff _ _ _).2 ⟨hall, rfl⟩⟩
end Go.Proofs.YtpdfgmedbphmkaaGreatDoor
