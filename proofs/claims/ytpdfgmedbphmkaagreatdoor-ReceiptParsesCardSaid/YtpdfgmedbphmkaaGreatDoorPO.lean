/-
  A value in order: looking up. The plain part.
-/
import Derived.Test.YtpdfgmedbphmkaaGreatDoorRO
import Derived.Test.YtpdfgmedbphmkaaGreatDoorRG
set_option linter.unusedSimpArgs false
set_option linter.unusedVariables false
set_option maxRecDepth 100000
namespace Go.Proofs.YtpdfgmedbphmkaaGreatDoor
open Go Go.AL

theorem ord_zip {j : J} (h5 : j.kind = 5) : j.ord.keys.zip j.ord.list = (placesOf j.keys).map fun i => (j.keys.getD i [], (j.list.map J.ord).getD i (.mk 0 0 [] [] [])) := by
  rw [ord_eq, if_pos h5]
  simp only [J.keys, J.list]
  exact List.zip_map'
theorem ord_kind (v : J) : v.ord.kind = v.kind := by
  rw [ord_eq]; split
  · rename_i h; rw [h]; rfl
  · rfl
theorem ord_int (v : J) : v.ord.int = v.int := by
  rw [ord_eq]; split <;> rfl
theorem jGet_mem {j v : J} {k : List UInt8} (h : jGet j k = some v) : v ∈ j.list := by
  rw [jGet] at h
  split at h
  · rw [Option.map_eq_some_iff] at h
    obtain ⟨p, hp, rfl⟩ := h
    exact (List.of_mem_zip (List.mem_of_find?_eq_some hp)).2
  · cases h
theorem good_mono : ∀ {n : Nat} {j : J}, goodB n j = true → goodB (n + 1) j = true := fun {n} => by
  induction n with
  | zero => intro j h; cases h
  | succ n ih =>
    intro j h
    rw [goodB] at h ⊢
    simp only [Bool.and_eq_true, List.all_eq_true] at h ⊢
    exact ⟨h.1, fun x hx => ih (h.2 x hx)⟩
theorem find_of {l : List (List UInt8 × J)} {k : List UInt8} {x : J} (hn : (l.map (·.1)).Nodup) (hm : (k, x) ∈ l) : l.find? (fun p => decide (p.1 = k)) = some (k, x) := by
  induction l with
  | nil => cases hm
  | cons p l ih =>
    rw [List.map_cons, List.nodup_cons] at hn
    rw [List.find?_cons]
    rcases List.mem_cons.1 hm with rfl | hm
    · simp
    · have : p.1 ≠ k := fun e => hn.1 (List.mem_map.2 ⟨(k, x), hm, e.symm⟩)
      rw [decide_eq_false this]
      exact ih hn.2 hm
theorem ord_keys5 {j : J} (h5 : j.kind = 5) : j.ord.keys = (placesOf j.keys).map fun i => j.keys.getD i [] := by rw [ord_eq, if_pos h5]; rfl
theorem ord_list5 {j : J} (h5 : j.kind = 5) : j.ord.list = (placesOf j.keys).map fun i => (j.list.map J.ord).getD i (.mk 0 0 [] [] []) := by rw [ord_eq, if_pos h5]; rfl
theorem ord_nodup {j : J} (h5 : j.kind = 5) (hn : j.keys.Nodup) : ((j.ord.keys.zip j.ord.list).map (·.1)).Nodup := by
  rw [ord_zip h5, List.map_map]
  refine List.pairwise_map.2 ((pl_nodup j.keys).imp_of_mem fun {a b} ha hb hab e => hab ?_)
  exact nodup_getD hn (places_lt ha) (places_lt hb) e
theorem jGet_ord {n : Nat} {j : J} (hg : goodB n j = true) (h5 : j.kind = 5) (k : List UInt8) : jGet j.ord k = (jGet j k).map J.ord := by
  obtain ⟨s1, s2, _⟩ := shaped_map (good_shaped hg) h5
  rw [jGet, if_pos (by rw [ord_kind, h5]), jGet, if_pos h5]
  cases hf : (j.keys.zip j.list).find? (fun p => decide (p.1 = k)) with
  | none =>
    rw [List.find?_eq_none] at hf
    have : (j.ord.keys.zip j.ord.list).find? (fun p => decide (p.1 = k)) = none := by
      rw [List.find?_eq_none]
      intro p hp
      rw [ord_zip h5] at hp
      obtain ⟨i, hi, rfl⟩ := List.mem_map.1 hp
      have hlt := places_lt hi
      have hm : (j.keys[i], j.list[i]'(by omega)) ∈ j.keys.zip j.list := List.mem_iff_getElem.2 ⟨i, by rw [List.length_zip]; omega, by simp⟩
      have := hf _ hm
      simp only [List.getD_eq_getElem?_getD, List.getElem?_eq_getElem hlt]
      simpa using this
    rw [this]; rfl
  | some p =>
    obtain ⟨k', x⟩ := p
    have e : k' = k := by simpa using List.find?_some hf
    subst e
    obtain ⟨i, hi, he⟩ := List.mem_iff_getElem.1 (List.mem_of_find?_eq_some hf)
    rw [List.length_zip] at hi
    rw [List.getElem_zip] at he
    obtain ⟨e1, e2⟩ := Prod.mk.inj he
    have hm : (k', x.ord) ∈ j.ord.keys.zip j.ord.list := by
      rw [ord_zip h5]
      refine List.mem_map.2 ⟨i, pl_mem (by omega), ?_⟩
      rw [List.getD_eq_getElem?_getD, List.getD_eq_getElem?_getD, List.getElem?_map, List.getElem?_eq_getElem (by omega : i < j.keys.length), List.getElem?_eq_getElem (by omega : i < j.list.length), e1, e2]
      rfl
    rw [find_of (ord_nodup h5 s2) hm]; rfl
theorem ord_perm (ks : List (List UInt8)) : ((placesOf ks).map fun i => ks.getD i []).Perm ks := by
  refine ((places_perm ks).map _).trans ?_
  have : (List.range ks.length).map (fun i => ks.getD i []) = ks := by
    refine List.ext_getElem (by simp) (fun i h1 h2 => ?_)
    simp [List.getElem?_eq_getElem h2]
  rw [this]
theorem ord_sorted (ks : List (List UInt8)) : ((placesOf ks).map fun i => ks.getD i []).Pairwise (· ≤ ·) := List.pairwise_map.2 (places_sorted ks)
theorem range_map {α : Type} (l : List α) (d : α) : (List.range l.length).map (fun i => l.getD i d) = l := by
  refine List.ext_getElem (by simp) (fun i h1 h2 => ?_)
  simp [List.getElem?_eq_getElem h2]
end Go.Proofs.YtpdfgmedbphmkaaGreatDoor
