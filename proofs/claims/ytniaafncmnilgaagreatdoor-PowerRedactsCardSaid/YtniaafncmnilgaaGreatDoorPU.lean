/-
  PowerTells: what a new user's or type's level tells, whatever the name is. The plain part.
-/
import Derived.Test.YtniaafncmnilgaaGreatDoorPT
import Derived.Test.YtniaafncmnilgaaGreatDoorR6
import Derived.Test.YtniaafncmnilgaaGreatDoorL10F
set_option linter.unusedSimpArgs false
set_option linter.unusedVariables false
set_option maxRecDepth 100000
namespace Go.Proofs.YtniaafncmnilgaaGreatDoor
open Go Go.AL

theorem isUser_valid {l : List UInt8} (h : isUserB l = true) : Lib.validD l = true := user_valid (by
  unfold isUserB at h
  cases hc : idCut [64] l with
  | none => rw [hc] at h; cases h
  | some p => rfl)
theorem one_bad {name : List UInt8} {n : Int} {d : Nat} (hv : Lib.validD name = false) : goodB d (.mk 5 0 [] [name] [numJ n]) = false := by
  cases d with
  | zero => rfl
  | succ d =>
    have hs : shapedB Lib.validD (.mk 5 0 [] [name] [numJ n]) = false := by simp [shapedB, J.kind, J.keys, J.list, J.int, J.text, namedB, hv]
    rw [goodB, hs]; rfl
theorem tells_u {c : J} {L : Lv} {name : List UInt8} {n : Int} (h5 : c.kind = 5) (hg : goodB 12 c = true) (hp : lvParse c = some L) (h1 : jGet c ([117, 115, 101, 114, 115] : List UInt8) = none) (h2 : jGet c ([101, 118, 101, 110, 116, 115] : List UInt8) = none) (hn : -1073741824 ≤ n ∧ n ≤ 1073741824) :
    lvParse (putJ c ([117, 115, 101, 114, 115] : List UInt8) (.mk 5 0 [] [name] [numJ n])) = if isUserB name = true then some { L with byUser := [(name, n)] } else none := by
  cases hv : Lib.validD name with
  | true => exact tells_users h5 hg hp h1 h2 hn hv
  | false =>
    have hu : ¬ isUserB name = true := fun h => by rw [isUser_valid h] at hv; cases hv
    have hk : Lib.validD ([117, 115, 101, 114, 115] : List UInt8) = true := by kernel_rfl
    rw [if_neg hu, lvParse, if_pos (put_kind _ _ _), good_put (m := .mk 5 0 [] [name] [numJ n]) hg h5 h1 hk, one_bad hv]
    rfl
theorem tells_e {c : J} {L : Lv} {name : List UInt8} {n : Int} (h5 : c.kind = 5) (hg : goodB 12 c = true) (hp : lvParse c = some L) (h1 : jGet c ([117, 115, 101, 114, 115] : List UInt8) = none) (h2 : jGet c ([101, 118, 101, 110, 116, 115] : List UInt8) = none) (hn : -1073741824 ≤ n ∧ n ≤ 1073741824) :
    lvParse (putJ c ([101, 118, 101, 110, 116, 115] : List UInt8) (.mk 5 0 [] [name] [numJ n])) = if isType name = true then some { L with byType := [(name, n)] } else none := by
  cases hv : Lib.validD name with
  | true => exact tells_events h5 hg hp h1 h2 hn hv
  | false =>
    have hu : ¬ isType name = true := fun h => by rw [type_valid h] at hv; cases hv
    have hk : Lib.validD ([101, 118, 101, 110, 116, 115] : List UInt8) = true := by kernel_rfl
    rw [if_neg hu, lvParse, if_pos (put_kind _ _ _), good_put (m := .mk 5 0 [] [name] [numJ n]) hg h5 h2 hk, one_bad hv]
    rfl
theorem parse_some {c : J} {L : Lv} (h : lvParse c = some L) : c.kind = 5 ∧ goodB 12 c = true := by
  unfold lvParse at h
  split at h
  · rename_i h5
    split at h
    · rename_i hg; exact ⟨h5, hg⟩
    · cases h
  · cases h
theorem names_none {c : J} {L : Lv} (hp : lvParse c = some L) (h1 : jGet c ([117, 115, 101, 114, 115] : List UInt8) = none) (h2 : jGet c ([101, 118, 101, 110, 116, 115] : List UInt8) = none) : L.byUser = [] ∧ L.byType = [] := by
  obtain ⟨h5, hg⟩ := parse_some hp
  rw [lvParse_look h5 hg] at hp
  unfold lvOf at hp
  simp only [h1, h2, Option.map_none, namesBad, namesR] at hp
  split at hp
  · cases hp
  · cases hp; exact ⟨rfl, rfl⟩
theorem lvRes_eq (o : Option Lv) : ∃ (l : Lv) (e : Int), lvRes o = .tup [.agg l.cells, .v (.int .i64 e)] ∧ (e = 0 → o = some l) ∧ (¬ e = 0 → o = none ∧ l = lv0) := by
  cases o with
  | none => exact ⟨lv0, 1, rfl, (fun h => by omega), fun _ => ⟨rfl, rfl⟩⟩
  | some l => exact ⟨l, 0, rfl, fun _ => rfl, fun h => absurd rfl h⟩
theorem getRes_eq (o : Option J) : ∃ (x : J) (b : Bool), getRes o = .tup [.agg x.cells, .v (.bool b)] ∧ (b = false → o = none) := by
  cases o with
  | none => exact ⟨.mk 0 0 [] [] [], false, rfl, fun _ => rfl⟩
  | some x => exact ⟨x, true, rfl, (fun h => by cases h)⟩
theorem small_lens {c : J} (hc : smlB c = true) : c.keys.length ≤ 100 ∧ c.list.length ≤ 200 := by
  have h : 0 ≤ leftI 15 c 200 := by simpa [smlB] using hc
  rw [leftI] at h
  split at h
  · omega
  · rename_i h1; omega
theorem small_many {c : J} (hc : smlB c = true) : c.keys.length + 1 ≤ 1000000000 := by have := (small_lens hc).1; omega
theorem small_many2 {c : J} (hc : smlB c = true) : c.list.length + 1 ≤ 1000000000 := by have := (small_lens hc).2; omega
theorem put_fit {c : J} {k : List UInt8} {m : J} (hc : smlB c = true) (hk : k.length ≤ 200) (hm : J.Fit m) (hm2 : ∀ k ∈ m.keys, k.length ≤ 200) : J.Fit (putJ c k m) ∧ ((∀ x ∈ (putJ c k m).keys, x.length < 4294967281) ∧ ∀ x ∈ (putJ c k m).list, ∀ y ∈ x.keys, y.length < 4294967281) := by
  obtain ⟨f1, f2, f3⟩ := small_fit hc
  obtain ⟨⟨g1, g2⟩, g3, g4, g5⟩ := fit_eq.1 f1
  refine ⟨fit_eq.2 ⟨⟨?_, ?_⟩, ?_, ?_, ?_⟩, ?_, ?_⟩
  · rw [put_keys, List.length_append]; exact small_many hc
  · rw [put_list, List.length_append]; exact small_many2 hc
  · rw [put_text]; decide
  · rw [put_keys]; intro x hx
    rcases List.mem_append.1 hx with hx | hx
    · have := f2 x hx; omega
    · obtain rfl := List.mem_singleton.1 hx; omega
  · rw [put_list]; intro x hx
    rcases List.mem_append.1 hx with hx | hx
    · exact g5 x hx
    · obtain rfl := List.mem_singleton.1 hx; exact hm
  · rw [put_keys]; intro x hx
    rcases List.mem_append.1 hx with hx | hx
    · have := f2 x hx; omega
    · obtain rfl := List.mem_singleton.1 hx; omega
  · rw [put_list]; intro x hx y hy
    rcases List.mem_append.1 hx with hx | hx
    · have := f3 x hx y hy; omega
    · obtain rfl := List.mem_singleton.1 hx; have := hm2 y hy; omega
theorem user_one (L : Lv) (name : List UInt8) (n : Int) : ({ L with byUser := [(name, n)] } : Lv).user name = n := by simp [Lv.user, fndL]
theorem type_one (L : Lv) (name : List UInt8) (n : Int) (st : Bool) : ({ L with byType := [(name, n)] } : Lv).type name st = n := by simp [Lv.type, fndL]
end Go.Proofs.YtniaafncmnilgaaGreatDoor
