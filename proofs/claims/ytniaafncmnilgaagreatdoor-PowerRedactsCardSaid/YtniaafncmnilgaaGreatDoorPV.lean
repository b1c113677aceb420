/-
  A value in order: looking up, order again, good. Redaction of levels in plain words. The plain part.
-/
import Derived.Test.YtniaafncmnilgaaGreatDoorRK
set_option linter.unusedSimpArgs false
set_option linter.unusedVariables false
set_option maxRecDepth 100000
namespace Go.Proofs.YtniaafncmnilgaaGreatDoor
open Go Go.AL

theorem find_of {l : List (List UInt8 × J)} {k : List UInt8} {x : J} (hn : (l.map (·.1)).Nodup) (hm : (k, x) ∈ l) : l.find? (fun p => decide (p.1 = k)) = some (k, x) := by
  induction l with
  | nil => cases hm
  | cons p l ih =>
    rw [List.map_cons, List.nodup_cons] at hn
    rw [List.find?_cons]
    rcases List.mem_cons.1 hm with rfl | hm
    · simp
    · have : p.1 ≠ k := fun e => hn.1 (List.mem_map.2 ⟨(k, x), hm, e.symm⟩)
      rw [decide_eq_false this]
      exact ih hn.2 hm
theorem ord_keys5 {j : J} (h5 : j.kind = 5) : j.ord.keys = (placesOf j.keys).map fun i => j.keys.getD i [] := by rw [ord_eq, if_pos h5]; rfl
theorem ord_list5 {j : J} (h5 : j.kind = 5) : j.ord.list = (placesOf j.keys).map fun i => (j.list.map J.ord).getD i (.mk 0 0 [] [] []) := by rw [ord_eq, if_pos h5]; rfl
theorem jGet_ord {n : Nat} {j : J} (hg : goodB n j = true) (h5 : j.kind = 5) (k : List UInt8) : jGet j.ord k = (jGet j k).map J.ord := by
  obtain ⟨s1, s2, _⟩ := shaped_map (good_shaped hg) h5
  rw [jGet, if_pos (by rw [ord_kind, h5]), jGet, if_pos h5]
  cases hf : (j.keys.zip j.list).find? (fun p => decide (p.1 = k)) with
  | none =>
    rw [List.find?_eq_none] at hf
    have : (j.ord.keys.zip j.ord.list).find? (fun p => decide (p.1 = k)) = none := by
      rw [List.find?_eq_none]
      intro p hp
      rw [ord_zip h5] at hp
      obtain ⟨i, hi, rfl⟩ := List.mem_map.1 hp
      have hlt := places_lt hi
      have hm : (j.keys[i], j.list[i]'(by omega)) ∈ j.keys.zip j.list := List.mem_iff_getElem.2 ⟨i, by rw [List.length_zip]; omega, by simp⟩
      have := hf _ hm
      simp only [List.getD_eq_getElem?_getD, List.getElem?_eq_getElem hlt]
      simpa using this
    rw [this]; rfl
  | some p =>
    obtain ⟨k', x⟩ := p
    have e : k' = k := by simpa using List.find?_some hf
    subst e
    obtain ⟨i, hi, he⟩ := List.mem_iff_getElem.1 (List.mem_of_find?_eq_some hf)
    rw [List.length_zip] at hi
    rw [List.getElem_zip] at he
    obtain ⟨e1, e2⟩ := Prod.mk.inj he
    have hm : (k', x.ord) ∈ j.ord.keys.zip j.ord.list := by
      rw [ord_zip h5]
      refine List.mem_map.2 ⟨i, pl_mem (by omega), ?_⟩
      rw [List.getD_eq_getElem?_getD, List.getD_eq_getElem?_getD, List.getElem?_map, List.getElem?_eq_getElem (by omega : i < j.keys.length), List.getElem?_eq_getElem (by omega : i < j.list.length), e1, e2]
      rfl
    rw [find_of (ord_nodup h5 s2) hm]; rfl
theorem ord_perm (ks : List (List UInt8)) : ((placesOf ks).map fun i => ks.getD i []).Perm ks := by
  refine ((places_perm ks).map _).trans ?_
  have : (List.range ks.length).map (fun i => ks.getD i []) = ks := by
    refine List.ext_getElem (by simp) (fun i h1 h2 => ?_)
    simp [List.getElem?_eq_getElem h2]
  rw [this]
theorem ord_sorted (ks : List (List UInt8)) : ((placesOf ks).map fun i => ks.getD i []).Pairwise (· ≤ ·) := List.pairwise_map.2 (places_sorted ks)
theorem places_id {ks : List (List UInt8)} (hn : ks.Nodup) (hs : ks.Pairwise (· ≤ ·)) : placesOf ks = List.range ks.length := by
  refine (places_uniq hn (List.Perm.refl _) ?_).symm
  rw [List.pairwise_iff_getElem] at hs ⊢
  intro i j hi hj hij
  simp only [List.length_range] at hi hj
  simp only [List.getElem_range]
  rw [List.getD_eq_getElem?_getD, List.getD_eq_getElem?_getD, List.getElem?_eq_getElem hi, List.getElem?_eq_getElem hj]
  exact hs i j hi hj hij
theorem range_map {α : Type} (l : List α) (d : α) : (List.range l.length).map (fun i => l.getD i d) = l := by
  refine List.ext_getElem (by simp) (fun i h1 h2 => ?_)
  simp [List.getElem?_eq_getElem h2]
theorem shaped_ord {j : J} (h : shapedB Lib.validD j = true) : shapedB Lib.validD j.ord = true := by
  by_cases h5 : j.kind = 5
  · obtain ⟨s1, s2, s3⟩ := shaped_map h h5
    have hk := ord_keys5 h5
    have hl := ord_list5 h5
    have hp := ord_perm j.keys
    have hi : j.int = 0 ∧ j.text = [] := by simp [shapedB, h5] at h; exact ⟨h.1.1.2, h.1.2⟩
    have ht : j.ord.text = [] := by rw [ord_eq, if_pos h5]; exact hi.2
    have hn : namedB Lib.validD j.ord.keys = true := by
      rw [namedB, hk, decide_eq_true (hp.nodup_iff.2 s2), Bool.true_and, List.all_eq_true]
      intro x hx; exact s3 x (hp.mem_iff.1 hx)
    have hll : j.ord.keys.length = j.ord.list.length := by rw [hk, hl, List.length_map, List.length_map]
    simp [shapedB, ord_kind, h5, ord_int, hi.1, ht, hn, hll]
  · by_cases h4 : j.kind = 4
    · rw [ord_eq, if_neg h5]
      simp [shapedB, J.kind, J.keys, J.list, J.int, J.text, h4] at h ⊢
      cases j; simp_all only [J.kind, J.keys, J.list, J.int, J.text]
      simp at h ⊢
      exact ⟨h.1.2, h.2⟩
    · obtain ⟨n1, n2⟩ := shaped_none h h4 h5
      have e : j.ord = j := by
        rw [ord_eq, if_neg h5, n2]
        cases j; simp_all [J.kind, J.keys, J.list, J.int, J.text]
      rw [e]; exact h
theorem good_ord : ∀ {n : Nat} {j : J}, goodB n j = true → goodB n j.ord = true := fun {n} => by
  induction n with
  | zero => intro j h; cases h
  | succ n ih =>
    intro j h
    rw [goodB] at h ⊢
    simp only [Bool.and_eq_true, List.all_eq_true] at h ⊢
    refine ⟨shaped_ord h.1, fun x hx => ?_⟩
    by_cases h5 : j.kind = 5
    · obtain ⟨y, hy, rfl⟩ := ord_list h5 (shaped_map h.1 h5).1 hx
      exact ih (h.2 y hy)
    · rw [ord_eq, if_neg h5] at hx
      obtain ⟨y, hy, rfl⟩ := List.mem_map.1 hx
      exact ih (h.2 y hy)
theorem ord_ord : ∀ {n : Nat} {j : J}, goodB n j = true → j.ord.ord = j.ord := fun {n} => by
  induction n with
  | zero => intro j h; cases h
  | succ n ih =>
    intro j h
    have hs := good_shaped h
    have hch : ∀ x ∈ j.list, goodB n x = true := by
      rw [goodB] at h; simp only [Bool.and_eq_true, List.all_eq_true] at h; exact h.2
    by_cases h5 : j.kind = 5
    · obtain ⟨s1, s2, s3⟩ := shaped_map hs h5
      have hk := ord_keys5 h5
      have hl := ord_list5 h5
      have hp := ord_perm j.keys
      have hpl : placesOf j.ord.keys = List.range j.ord.keys.length := places_id (by rw [hk]; exact hp.nodup_iff.2 s2) (by rw [hk]; exact ord_sorted _)
      have hlen : j.ord.list.length = j.ord.keys.length := by rw [hk, hl, List.length_map, List.length_map]
      have hm : j.ord.list.map J.ord = j.ord.list := by
        refine (List.map_congr_left fun x hx => ?_).trans (List.map_id _)
        obtain ⟨y, hy, rfl⟩ := ord_list h5 s1 hx
        exact ih (hch y hy)
      have e := ord_eq j.ord
      rw [if_pos (by rw [ord_kind, h5]), hpl, hm, range_map, ← hlen, range_map] at e
      rw [e]
      refine J.ext' ⟨by rw [ord_kind, h5]; rfl, rfl, rfl, rfl, rfl⟩
    · rw [ord_eq j, if_neg h5, ord_eq, if_neg (by simpa [J.kind] using h5)]
      refine J.ext' ⟨rfl, rfl, rfl, rfl, ?_⟩
      show (j.list.map J.ord).map J.ord = j.list.map J.ord
      rw [List.map_map]
      exact List.map_congr_left fun x hx => ih (hch x hx)
theorem fit_ord : ∀ {n : Nat} {j : J}, goodB n j = true → J.Fit j → J.Fit j.ord := fun {n} => by
  induction n with
  | zero => intro j h; cases h
  | succ n ih =>
    intro j h hf
    have hs := good_shaped h
    have hch : ∀ x ∈ j.list, goodB n x = true := by
      rw [goodB] at h; simp only [Bool.and_eq_true, List.all_eq_true] at h; exact h.2
    obtain ⟨⟨f1, f2⟩, f3, f4, f5⟩ := fit_eq.1 hf
    by_cases h5 : j.kind = 5
    · obtain ⟨s1, s2, s3⟩ := shaped_map hs h5
      refine fit_eq.2 ⟨⟨by rw [ord_keys5 h5, List.length_map, places_len]; exact f1, by rw [ord_list5 h5, List.length_map, places_len]; exact f1⟩, by rw [ord_eq, if_pos h5]; exact f3, fun x hx => ?_, fun x hx => ?_⟩
      · rw [ord_keys5 h5] at hx
        exact f4 x ((ord_perm j.keys).mem_iff.1 hx)
      · obtain ⟨y, hy, rfl⟩ := ord_list h5 s1 hx
        exact ih (hch y hy) (f5 y hy)
    · rw [ord_eq, if_neg h5]
      refine fit_eq.2 ⟨⟨by simp [J.keys], by simpa [J.list] using f2⟩, by simpa [J.text] using f3, by simp [J.keys], fun x hx => ?_⟩
      obtain ⟨y, hy, rfl⟩ := List.mem_map.1 hx
      exact ih (hch y hy) (f5 y hy)

/-- what is left of a content: the values under these keys -/
def redPs (c : J) (ks : List (List UInt8)) : List (List UInt8 × J) := ks.filterMap fun k => (jGet c k).map fun v => (k, v)
def redJ (c : J) (ks : List (List UInt8)) : J := .mk 5 0 [] ((redPs c ks).map (·.1)) ((redPs c ks).map (·.2))
theorem red_mem {c : J} {ks : List (List UInt8)} {p : List UInt8 × J} (h : p ∈ redPs c ks) : p.1 ∈ ks ∧ jGet c p.1 = some p.2 := by
  obtain ⟨k, hk, he⟩ := List.mem_filterMap.1 h
  obtain ⟨v, hv, rfl⟩ := Option.map_eq_some_iff.1 he
  exact ⟨hk, hv⟩
theorem red_keys (c : J) : ∀ (ks : List (List UInt8)), (redPs c ks).map (·.1) = ks.filter fun k => (jGet c k).isSome
  | [] => rfl
  | k :: ks => by
    rw [redPs, List.filterMap_cons, List.filter_cons]
    cases h : jGet c k with
    | none => simpa [redPs] using red_keys c ks
    | some v => simpa [redPs] using red_keys c ks
theorem red_zip (c : J) (ks : List (List UInt8)) : (redJ c ks).keys.zip (redJ c ks).list = redPs c ks := by
  show ((redPs c ks).map (·.1)).zip ((redPs c ks).map (·.2)) = _
  rw [List.zip_map']
  simp
theorem red_nodup {c : J} {ks : List (List UInt8)} (hn : ks.Nodup) : ((redPs c ks).map (·.1)).Nodup := by rw [red_keys]; exact hn.filter _
theorem red_get {c : J} {ks : List (List UInt8)} (hn : ks.Nodup) {k : List UInt8} (hk : k ∈ ks) : jGet (redJ c ks) k = jGet c k := by
  rw [jGet, if_pos (by rfl), red_zip]
  cases h : jGet c k with
  | some v =>
    rw [find_of (red_nodup hn) (List.mem_filterMap.2 ⟨k, hk, by rw [h]; rfl⟩)]; rfl
  | none =>
    have : (redPs c ks).find? (fun p => decide (p.1 = k)) = none := by
      rw [List.find?_eq_none]
      intro p hp hd
      obtain ⟨_, h2⟩ := red_mem hp
      rw [of_decide_eq_true hd, h] at h2; cases h2
    rw [this]; rfl
theorem red_good {c : J} {ks : List (List UInt8)} {n : Nat} (hg : goodB (n + 1) c = true) (hn : ks.Nodup) (hv : ∀ k ∈ ks, Lib.validD k = true) : goodB (n + 1) (redJ c ks) = true := by
  have hs : shapedB Lib.validD (redJ c ks) = true := by
    have h1 : namedB Lib.validD (redJ c ks).keys = true := by
      show namedB Lib.validD ((redPs c ks).map (·.1)) = true
      rw [namedB, decide_eq_true (red_nodup hn), Bool.true_and, List.all_eq_true]
      intro x hx
      obtain ⟨p, hp, rfl⟩ := List.mem_map.1 hx
      exact hv _ (red_mem hp).1
    have h2 : (redJ c ks).keys.length = (redJ c ks).list.length := by show ((redPs c ks).map (·.1)).length = ((redPs c ks).map (·.2)).length; simp
    have h3 : (redJ c ks).kind = 5 := rfl
    have h4 : (redJ c ks).int = 0 := rfl
    have h6 : (redJ c ks).text = [] := rfl
    simp [shapedB, h1, h2, h3, h4, h6]
  rw [goodB, hs, Bool.true_and, List.all_eq_true]
  intro x hx
  obtain ⟨p, hp, rfl⟩ := List.mem_map.1 hx
  rw [goodB] at hg
  simp only [Bool.and_eq_true, List.all_eq_true] at hg
  exact hg.2 _ (jGet_mem (red_mem hp).2)
theorem red_fit {c : J} {ks : List (List UInt8)} (hf : J.Fit c) (hl : ks.length ≤ 1000) (hk : ∀ k ∈ ks, k.length ≤ 1000) : J.Fit (redJ c ks) := by
  have h1 : (redPs c ks).length ≤ ks.length := List.length_filterMap_le ..
  refine fit_eq.2 ⟨⟨by show ((redPs c ks).map (·.1)).length ≤ _; rw [List.length_map]; omega, by show ((redPs c ks).map (·.2)).length ≤ _; rw [List.length_map]; omega⟩, by show ([] : List UInt8).length ≤ _; decide, fun x hx => ?_, fun x hx => ?_⟩
  · obtain ⟨p, hp, rfl⟩ := List.mem_map.1 hx
    have := hk _ (red_mem hp).1; omega
  · obtain ⟨p, hp, rfl⟩ := List.mem_map.1 hx
    exact (fit_eq.1 hf).2.2.2 _ (jGet_mem (red_mem hp).2)
theorem docOk_get {j j' : J} (h : ∀ k ∈ ([[98, 97, 110], [101, 118, 101, 110, 116, 115], [101, 118, 101, 110, 116, 115, 95, 100, 101, 102, 97, 117, 108, 116], [105, 110, 118, 105, 116, 101], [107, 105, 99, 107], [114, 101, 100, 97, 99, 116], [115, 116, 97, 116, 101, 95, 100, 101, 102, 97, 117, 108, 116], [117, 115, 101, 114, 115], [117, 115, 101, 114, 115, 95, 100, 101, 102, 97, 117, 108, 116]] : List (List UInt8)), jGet j' k = (jGet j k).map J.ord) (ho : ∀ k v, jGet j k = some v → v.ord.ord = v.ord) : docOk j' = docOk j ∧ docLv j' = docLv j := by
  have ht : ∀ k, jGet j' k = (jGet j k).map J.ord → tellB (jGet j' k) = tellB (jGet j k) := fun k e => by rw [e, tellB_ord]
  have hr : ∀ k n, jGet j' k = (jGet j k).map J.ord → numR (jGet j' k) n = numR (jGet j k) n := fun k n e => by rw [e, numR_ord]
  have hm : ∀ k, jGet j' k = (jGet j k).map J.ord → (jGet j' k).map J.ord = (jGet j k).map J.ord := fun k e => by
    rw [e]
    cases hv : jGet j k with
    | none => rfl
    | some v => simp only [Option.map_some]; rw [ho k v hv]
  have k1 := h [98, 97, 110] (by decide)
  have k2 := h [101, 118, 101, 110, 116, 115] (by decide)
  have k3 := h [101, 118, 101, 110, 116, 115, 95, 100, 101, 102, 97, 117, 108, 116] (by decide)
  have k4 := h [105, 110, 118, 105, 116, 101] (by decide)
  have k5 := h [107, 105, 99, 107] (by decide)
  have k6 := h [114, 101, 100, 97, 99, 116] (by decide)
  have k7 := h [115, 116, 97, 116, 101, 95, 100, 101, 102, 97, 117, 108, 116] (by decide)
  have k8 := h [117, 115, 101, 114, 115] (by decide)
  have k9 := h [117, 115, 101, 114, 115, 95, 100, 101, 102, 97, 117, 108, 116] (by decide)
  unfold docOk docLv
  rw [ht _ k1, ht _ k5, ht _ k4, ht _ k6, ht _ k7, ht _ k3, ht _ k9, hm _ k8, hm _ k2, hr _ _ k1, hr _ _ k5, hr _ _ k4, hr _ _ k6, hr _ _ k7, hr _ _ k3, hr _ _ k9]
  exact ⟨rfl, rfl⟩
end Go.Proofs.YtniaafncmnilgaaGreatDoor
