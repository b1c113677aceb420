/-
  PowerTells: looking up among ordered pairs. The plain part.
-/
import Derived.Test.YtniaafncmnilgaaGreatDoorPG
import Derived.Test.YtniaafncmnilgaaGreatDoorRG
import Derived.Test.YtniaafncmnilgaaGreatDoorRP
set_option linter.unusedSimpArgs false
set_option linter.unusedVariables false
set_option maxRecDepth 100000
namespace Go.Proofs.YtniaafncmnilgaaGreatDoor
open Go Go.AL

theorem jlast_append (l : List (List UInt8 × J)) (p : List UInt8 × J) (k : List UInt8) : jlast (l ++ [p]) k = if p.1 = k then some p.2 else jlast l k := by
  rw [jlast, List.foldl_append]; rfl
theorem jlast_none {k : List UInt8} : ∀ {l : List (List UInt8 × J)} {o : Option J}, (∀ p ∈ l, p.1 ≠ k) → l.foldl (fun o p => if p.1 = k then some p.2 else o) o = o
  | [], o, _ => rfl
  | p :: l, o, h => by
    rw [List.foldl_cons, if_neg (h p (by simp))]
    exact jlast_none (fun q hq => h q (by simp [hq]))
/-- the one pair with that key -/
theorem jlast_of {l : List (List UInt8 × J)} {k : List UInt8} {x : J} (hn : (l.map (·.1)).Nodup) (hm : (k, x) ∈ l) : jlast l k = some x := by
  obtain ⟨a, b, rfl⟩ := List.append_of_mem hm
  rw [jlast, List.foldl_append, List.foldl_cons, if_pos rfl]
  refine jlast_none (fun p hp => ?_)
  rintro rfl
  rw [List.map_append, List.map_cons] at hn
  have h2 := (List.nodup_append.1 hn).2.1
  rw [List.nodup_cons] at h2
  exact h2.1 (List.mem_map.2 ⟨p, hp, rfl⟩)
theorem jlast_not {l : List (List UInt8 × J)} {k : List UInt8} (h : ∀ p ∈ l, p.1 ≠ k) : jlast l k = none := jlast_none h
theorem ord_zip {j : J} (h5 : j.kind = 5) : j.ord.keys.zip j.ord.list = (placesOf j.keys).map fun i => (j.keys.getD i [], (j.list.map J.ord).getD i (.mk 0 0 [] [] [])) := by
  rw [ord_eq, if_pos h5]
  simp only [J.keys, J.list]
  exact List.zip_map'
theorem places_nodup (ks : List (List UInt8)) : (placesOf ks).Nodup := (places_perm ks).nodup_iff.2 List.nodup_range
theorem places_mem {ks : List (List UInt8)} {i : Nat} (h : i < ks.length) : i ∈ placesOf ks := (places_perm ks).mem_iff.2 (List.mem_range.2 h)
theorem ord_nodup {j : J} (h5 : j.kind = 5) (hn : j.keys.Nodup) : ((j.ord.keys.zip j.ord.list).map (·.1)).Nodup := by
  rw [ord_zip h5, List.map_map]
  refine List.pairwise_map.2 ((places_nodup j.keys).imp_of_mem fun {a b} ha hb hab e => hab ?_)
  exact nodup_getD hn (places_lt ha) (places_lt hb) e
theorem look {j : J} {n : Nat} (hg : goodB n j = true) (h5 : j.kind = 5) (k : List UInt8) : jlast (j.ord.keys.zip j.ord.list) k = (jGet j k).map J.ord := by
  obtain ⟨s1, s2, _⟩ := shaped_map (good_shaped hg) h5
  rw [jGet, if_pos h5]
  cases hf : (j.keys.zip j.list).find? (fun p => decide (p.1 = k)) with
  | none =>
    rw [List.find?_eq_none] at hf
    refine jlast_not fun p hp => ?_
    rw [ord_zip h5] at hp
    obtain ⟨i, hi, rfl⟩ := List.mem_map.1 hp
    have hlt := places_lt hi
    have hm : (j.keys[i], j.list[i]'(by omega)) ∈ j.keys.zip j.list := List.mem_iff_getElem.2 ⟨i, by rw [List.length_zip]; omega, by simp⟩
    have := hf _ hm
    simp only [decide_eq_true_eq] at this
    simp only [List.getD_eq_getElem?_getD, List.getElem?_eq_getElem hlt]
    exact this
  | some p =>
    obtain ⟨k', x⟩ := p
    have e : k' = k := by simpa using List.find?_some hf
    subst e
    obtain ⟨i, hi, he⟩ := List.mem_iff_getElem.1 (List.mem_of_find?_eq_some hf)
    rw [List.length_zip] at hi
    rw [List.getElem_zip] at he
    obtain ⟨e1, e2⟩ := Prod.mk.inj he
    show _ = some x.ord
    refine jlast_of (ord_nodup h5 s2) ?_
    rw [ord_zip h5]
    refine List.mem_map.2 ⟨i, places_mem (by omega), ?_⟩
    rw [List.getD_eq_getElem?_getD, List.getD_eq_getElem?_getD, List.getElem?_map, List.getElem?_eq_getElem (by omega : i < j.keys.length), List.getElem?_eq_getElem (by omega : i < j.list.length), e1, e2]
    rfl
def putJ (c : J) (k : List UInt8) (m : J) : J := .mk 5 0 [] (c.keys ++ [k]) (c.list ++ [m])
theorem put_kind (c m : J) (k : List UInt8) : (putJ c k m).kind = 5 := rfl
theorem put_int (c m : J) (k : List UInt8) : (putJ c k m).int = 0 := rfl
theorem put_text (c m : J) (k : List UInt8) : (putJ c k m).text = [] := rfl
theorem put_keys (c m : J) (k : List UInt8) : (putJ c k m).keys = c.keys ++ [k] := rfl
theorem put_list (c m : J) (k : List UInt8) : (putJ c k m).list = c.list ++ [m] := rfl
theorem get_new {c : J} {k : List UInt8} (h5 : c.kind = 5) (hl : c.keys.length = c.list.length) (hnew : jGet c k = none) : k ∉ c.keys := fun hk => by
  rw [jGet, if_pos h5] at hnew
  simp only [Option.map_eq_none_iff, List.find?_eq_none] at hnew
  obtain ⟨i, hi, e⟩ := List.mem_iff_getElem.1 hk
  have hm : (c.keys[i], c.list[i]'(by omega)) ∈ c.keys.zip c.list := List.mem_iff_getElem.2 ⟨i, by rw [List.length_zip]; omega, by simp⟩
  have := hnew _ hm
  simp [e] at this
theorem good_put {n : Nat} {c m : J} {k : List UInt8} (hg : goodB (n + 1) c = true) (h5 : c.kind = 5) (hnew : jGet c k = none) (hk : Lib.validD k = true) : goodB (n + 1) (putJ c k m) = goodB n m := by
  obtain ⟨s1, s2, s3⟩ := shaped_map (good_shaped hg) h5
  have hk2 := get_new h5 s1 hnew
  have hl : c.list.all (goodB n) = true := by simp only [goodB, Bool.and_eq_true] at hg; exact hg.2
  have hn : (c.keys ++ [k]).Nodup := by
    rw [List.nodup_append]
    exact ⟨s2, by simp, fun a ha b hb => by simp at hb; subst hb; rintro rfl; exact hk2 ha⟩
  have hs : shapedB Lib.validD (putJ c k m) = true := by
    simp only [shapedB, put_kind, put_int, put_text, put_keys, put_list, namedB]
    simp only [List.length_append, s1, hn, List.all_append, List.all_cons, List.all_nil, hk, List.all_eq_true.2 s3]
    simp
  rw [goodB, hs, Bool.true_and]
  simp only [put_list, List.all_append, hl, Bool.true_and, List.all_cons, List.all_nil, Bool.and_true]
theorem get_put {c m : J} {k : List UInt8} (h5 : c.kind = 5) (hl : c.keys.length = c.list.length) (hnew : jGet c k = none) (q : List UInt8) : jGet (putJ c k m) q = if q = k then some m else jGet c q := by
  have e : (c.keys ++ [k]).zip (c.list ++ [m]) = c.keys.zip c.list ++ [(k, m)] := by rw [List.zip_append hl]; rfl
  rw [jGet, if_pos h5] at hnew
  rw [jGet, jGet, if_pos h5]
  simp only [put_kind, put_keys, put_list, if_true, e, List.find?_append]
  by_cases h : q = k
  · subst h
    rw [if_pos rfl]
    have : (c.keys.zip c.list).find? (fun p => decide (p.1 = q)) = none := by simpa using hnew
    rw [this]; simp
  · rw [if_neg h]
    cases (c.keys.zip c.list).find? (fun p => decide (p.1 = q)) with
    | some p => rfl
    | none => simp [Ne.symm h]
theorem lvParse_look {c : J} (h5 : c.kind = 5) (hg : goodB 12 c = true) : lvParse c = lvOf (fun k => (jGet c k).map J.ord) := by
  rw [lvParse, if_pos h5, if_pos hg]
  congr 1
  funext k
  exact look hg h5 k
theorem one_ord (name : List UInt8) (n : Int) : (J.mk 5 0 [] [name] [numJ n]).ord = J.mk 5 0 [] [name] [numJ n] := by
  have hp : placesOf [name] = [0] := by simp [placesOf, List.range_succ]
  have hn : (numJ n).ord = numJ n := by rw [ord_eq]; simp [numJ, J.kind, J.int, J.text, J.list]
  rw [ord_eq]
  simp [J.kind, J.int, J.text, J.keys, J.list, hp, hn]
theorem tells_users {c : J} {L : Lv} {name : List UInt8} {n : Int} (h5 : c.kind = 5) (hg : goodB 12 c = true) (hp : lvParse c = some L) (h1 : jGet c ([117, 115, 101, 114, 115] : List UInt8) = none) (h2 : jGet c ([101, 118, 101, 110, 116, 115] : List UInt8) = none) (hn : -1073741824 ≤ n ∧ n ≤ 1073741824) (hv : Lib.validD name = true) :
    lvParse (putJ c ([117, 115, 101, 114, 115] : List UInt8) (.mk 5 0 [] [name] [numJ n])) = if isUserB name = true then some { L with byUser := [(name, n)] } else none := by
  obtain ⟨s1, _, _⟩ := shaped_map (good_shaped hg) h5
  have hm : goodB 11 (.mk 5 0 [] [name] [numJ n]) = true := by
    have hs : shapedB Lib.validD (.mk 5 0 [] [name] [numJ n]) = true := by simp [shapedB, J.kind, J.keys, J.list, J.int, J.text, namedB, hv]
    have hq : shapedB Lib.validD (numJ n) = true := by
      have a1 : -9007199254740991 ≤ n := by omega
      have a2 : n ≤ 9007199254740991 := by omega
      simp [shapedB, numJ, J.kind, J.keys, J.list, J.int, J.text, a1, a2]
    rw [goodB, hs]
    simp only [J.list, List.all_cons, List.all_nil, goodB, hq]
    simp [numJ, J.list]
  have hk : Lib.validD ([117, 115, 101, 114, 115] : List UInt8) = true := by kernel_rfl
  have hg1 := (good_put (m := .mk 5 0 [] [name] [numJ n]) hg h5 h1 hk).trans hm
  rw [lvParse_look (put_kind _ _ _) hg1]
  rw [lvParse_look h5 hg] at hp
  obtain ⟨G, hG⟩ : ∃ G : List UInt8 → Option J, G = fun k => (jGet c k).map J.ord := ⟨_, rfl⟩
  have g1 : G ([117, 115, 101, 114, 115] : List UInt8) = none := by rw [hG]; simp [h1]
  have g2 : G ([101, 118, 101, 110, 116, 115] : List UInt8) = none := by rw [hG]; simp [h2]
  have e : (fun k => (jGet (putJ c ([117, 115, 101, 114, 115] : List UInt8) (.mk 5 0 [] [name] [numJ n])) k).map J.ord) = fun k => if k = ([117, 115, 101, 114, 115] : List UInt8) then some (.mk 5 0 [] [name] [numJ n]) else G k := by
    funext k
    rw [get_put h5 s1 h1, hG]
    by_cases hq : k = ([117, 115, 101, 114, 115] : List UInt8)
    · rw [if_pos hq, if_pos hq, Option.map_some, one_ord]
    · rw [if_neg hq, if_neg hq]
  rw [e]
  rw [← hG] at hp
  unfold lvOf at hp ⊢
  simp only [g1, g2, namesBad, namesR] at hp
  dsimp only
  simp (decide := true) only [if_true, if_false, g2, namesBad, namesR]
  split at hp
  · cases hp
  · rename_i hb
    cases hp
    have hb7 := Bool.eq_false_iff.2 hb
    rw [hb7]
    have hlv : levelB (numJ n) = true := by simp [levelB, numJ, J.kind, J.int, hn.1, hn.2]
    have hnb : namesB isUserB (if false = true then true else !decide ((J.mk 5 0 [] [name] [numJ n]).kind = 5)) ((J.mk 5 0 [] [name] [numJ n]).keys.zip (J.mk 5 0 [] [name] [numJ n]).list) = !isUserB name := by
      show (if (if (if false = true then true else !decide ((5 : Int) = 5)) = true then true else !levelB (numJ n)) = true then true else !isUserB name) = _
      rw [hlv]; simp
    rw [hnb]
    cases isUserB name <;> rfl
theorem tells_events {c : J} {L : Lv} {name : List UInt8} {n : Int} (h5 : c.kind = 5) (hg : goodB 12 c = true) (hp : lvParse c = some L) (h1 : jGet c ([117, 115, 101, 114, 115] : List UInt8) = none) (h2 : jGet c ([101, 118, 101, 110, 116, 115] : List UInt8) = none) (hn : -1073741824 ≤ n ∧ n ≤ 1073741824) (hv : Lib.validD name = true) :
    lvParse (putJ c ([101, 118, 101, 110, 116, 115] : List UInt8) (.mk 5 0 [] [name] [numJ n])) = if isType name = true then some { L with byType := [(name, n)] } else none := by
  obtain ⟨s1, _, _⟩ := shaped_map (good_shaped hg) h5
  have hm : goodB 11 (.mk 5 0 [] [name] [numJ n]) = true := by
    have hs : shapedB Lib.validD (.mk 5 0 [] [name] [numJ n]) = true := by simp [shapedB, J.kind, J.keys, J.list, J.int, J.text, namedB, hv]
    have hq : shapedB Lib.validD (numJ n) = true := by
      have a1 : -9007199254740991 ≤ n := by omega
      have a2 : n ≤ 9007199254740991 := by omega
      simp [shapedB, numJ, J.kind, J.keys, J.list, J.int, J.text, a1, a2]
    rw [goodB, hs]
    simp only [J.list, List.all_cons, List.all_nil, goodB, hq]
    simp [numJ, J.list]
  have hk : Lib.validD ([101, 118, 101, 110, 116, 115] : List UInt8) = true := by kernel_rfl
  have hg1 := (good_put (m := .mk 5 0 [] [name] [numJ n]) hg h5 h2 hk).trans hm
  rw [lvParse_look (put_kind _ _ _) hg1]
  rw [lvParse_look h5 hg] at hp
  obtain ⟨G, hG⟩ : ∃ G : List UInt8 → Option J, G = fun k => (jGet c k).map J.ord := ⟨_, rfl⟩
  have g1 : G ([117, 115, 101, 114, 115] : List UInt8) = none := by rw [hG]; simp [h1]
  have g2 : G ([101, 118, 101, 110, 116, 115] : List UInt8) = none := by rw [hG]; simp [h2]
  have e : (fun k => (jGet (putJ c ([101, 118, 101, 110, 116, 115] : List UInt8) (.mk 5 0 [] [name] [numJ n])) k).map J.ord) = fun k => if k = ([101, 118, 101, 110, 116, 115] : List UInt8) then some (.mk 5 0 [] [name] [numJ n]) else G k := by
    funext k
    rw [get_put h5 s1 h2, hG]
    by_cases hq : k = ([101, 118, 101, 110, 116, 115] : List UInt8)
    · rw [if_pos hq, if_pos hq, Option.map_some, one_ord]
    · rw [if_neg hq, if_neg hq]
  rw [e]
  rw [← hG] at hp
  unfold lvOf at hp ⊢
  simp only [g1, g2, namesBad, namesR] at hp
  dsimp only
  simp (decide := true) only [if_true, if_false, g1, namesBad, namesR]
  split at hp
  · cases hp
  · rename_i hb
    cases hp
    have hb7 := Bool.eq_false_iff.2 hb
    rw [hb7]
    have hlv : levelB (numJ n) = true := by simp [levelB, numJ, J.kind, J.int, hn.1, hn.2]
    have hnb : namesB isType (if false = true then true else !decide ((J.mk 5 0 [] [name] [numJ n]).kind = 5)) ((J.mk 5 0 [] [name] [numJ n]).keys.zip (J.mk 5 0 [] [name] [numJ n]).list) = !isType name := by
      show (if (if (if false = true then true else !decide ((5 : Int) = 5)) = true then true else !levelB (numJ n)) = true then true else !isType name) = _
      rw [hlv]; simp
    rw [hnb]
    cases isType name <;> rfl
end Go.Proofs.YtniaafncmnilgaaGreatDoor
