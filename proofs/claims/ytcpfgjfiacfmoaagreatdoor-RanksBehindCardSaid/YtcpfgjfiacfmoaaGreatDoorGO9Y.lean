/-
  What the document's order is like, in plain words. (Out of O9Z, for seats that have no O9Q.)
-/
import Derived.Test.YtcpfgjfiacfmoaaGreatDoorGPart9
import Derived.Test.YtcpfgjfiacfmoaaGreatDoorGPart5
set_option linter.unusedSimpArgs false
set_option linter.unusedVariables false
namespace Go.Proofs.YtcpfgjfiacfmoaaGreatDoor
open Go Go.AL

def Least (P : List (List Int)) (R : List Int) (n : Nat) (told more : List Nat) : Prop :=
  ∀ m j, more[m]? = some j → j < n ∧ may P (told ++ more.take m) j ∧ ∀ q, q < n → may P (told ++ more.take m) q → q ≠ j → lessI R j q < 0
theorem ofN_app (l : List Nat) (j : Nat) : ofN l ++ [(j : Int)] = ofN (l ++ [j]) := by simp [ofN]
theorem refF_spec {P : List (List Int)} {R : List Int} {n : Nat} : ∀ (k : Nat) (told : List Nat) (l : List Int), refF P R n k (ofN told) = some l → ∃ more : List Nat, l = ofN (told ++ more) ∧ more.length = k ∧ Least P R n told more
  | 0, told, l, h => by
    rw [refF] at h
    cases h
    exact ⟨[], by simp, rfl, fun m j e => by simp at e⟩
  | k + 1, told, l, h => by
    rw [refF] at h
    rcases best_is (P := P) (R := R) (told := told) n with ⟨h1, _⟩ | ⟨j, hj, h1, h2, h3⟩
    · rw [h1, if_pos (by decide)] at h; cases h
    · rw [h1, if_neg (by omega), ofN_app] at h
      obtain ⟨more, k1, k2, k3⟩ := refF_spec k _ l h
      refine ⟨j :: more, by rw [k1]; simp, by simp [k2], fun m i e => ?_⟩
      cases m with
      | zero =>
        simp at e
        subst e
        simp only [List.take_zero, List.append_nil]
        exact ⟨hj, h2, h3⟩
      | succ m =>
        rw [List.getElem?_cons_succ] at e
        have := k3 m i e
        simpa using this
theorem refL_spec {P : List (List Int)} {R : List Int} {l : List Int} (h : refL P R = some l) : ∃ out : List Nat, l = ofN out ∧ out.length = P.length ∧ R.length = P.length ∧ Least P R P.length [] out := by
  unfold refL at h
  split at h
  · rename_i hc
    obtain ⟨more, k1, k2, k3⟩ := refF_spec _ [] l h
    exact ⟨more, by simpa using k1, k2, hc.1, k3⟩
  · cases h
theorem Least.nodup {P : List (List Int)} {R : List Int} {n : Nat} {out : List Nat} (h : Least P R n [] out) : out.Nodup := by
  rw [List.nodup_iff_pairwise_ne, List.pairwise_iff_getElem]
  intro i j hi hj hij e
  have := (h j _ (List.getElem?_eq_getElem hj)).2.1.1
  apply this
  rw [List.nil_append, List.mem_take_iff_getElem]
  exact ⟨i, by omega, e⟩
theorem Least.all {P : List (List Int)} {R : List Int} {n : Nat} {out : List Nat} (h : Least P R n [] out) (hl : out.length = n) {i : Nat} (hi : i < n) : ∃ m : Nat, out[m]? = some i := by
  have h1 := nodup_rem (n := n) h.nodup (fun x hx => by
    obtain ⟨m, hm⟩ := List.getElem?_of_mem hx
    exact (h m x hm).1)
  have h2 : rem n out = 0 := by omega
  rw [rem, List.length_eq_zero_iff, List.filter_eq_nil_iff] at h2
  have := h2 i (List.mem_range.2 hi)
  have hm : i ∈ out := by simpa using this
  exact List.getElem?_of_mem hm
theorem Least.at_ {P : List (List Int)} {R : List Int} {n : Nat} {out : List Nat} (h : Least P R n [] out) {m i : Nat} (hm : out[m]? = some i) : atI (i : Int) (ofN out) = m := by
  have hx : (ofN out)[m]? = some (i : Int) := by rw [ofN, List.getElem?_map, hm]; rfl
  refine atI_take hx (fun y hy e => ?_) rfl
  subst e
  have := (h m i hm).2.1.1
  apply this
  rw [List.nil_append]
  rw [show (ofN out).take m = ofN (out.take m) by simp [ofN, List.map_take], mem_ofN] at hy
  exact hy
theorem refF_ever {P : List (List Int)} {R : List Int} {n : Nat} (hb : ∀ j, ∀ x ∈ P.getD j [], 0 ≤ x ∧ x < j) : ∀ (k : Nat) (told : List Nat), told.Nodup → (∀ x ∈ told, x < n) → told.length + k = n → (refF P R n k (ofN told)).isSome = true
  | 0, told, _, _, _ => by rw [refF]; rfl
  | k + 1, told, hn, ht, hl => by
    have hrem := nodup_rem hn ht
    have hfind : ∀ m, (∀ i, i < m → i ∈ told) ∨ ∃ j, j < m ∧ j ∉ told ∧ ∀ i, i < j → i ∈ told := by
      intro m
      induction m with
      | zero => exact .inl (fun i h => by omega)
      | succ m ih =>
        rcases ih with h | ⟨j, h1, h2, h3⟩
        · by_cases hm : m ∈ told
          · refine .inl (fun i hi => ?_)
            by_cases e : i = m
            · subst e; exact hm
            · exact h i (by omega)
          · exact .inr ⟨m, by omega, hm, h⟩
        · exact .inr ⟨j, by omega, h2, h3⟩
    obtain ⟨j, hj, hjt, hji⟩ : ∃ j, j < n ∧ j ∉ told ∧ ∀ i, i < j → i ∈ told := by
      rcases hfind n with h | h
      · exfalso
        have : rem n told = 0 := by
          rw [rem, List.length_eq_zero_iff, List.filter_eq_nil_iff]
          intro i hi
          simp [h i (List.mem_range.1 hi)]
        omega
      · exact h
    have hmay : may P told j := by
      refine ⟨hjt, ?_⟩
      rw [rdy, List.all_eq_true]
      intro x hx
      obtain ⟨h0, h1⟩ := hb j x hx
      obtain ⟨p, rfl⟩ : ∃ p : Nat, x = p := ⟨x.toNat, by omega⟩
      rw [decide_eq_true_iff, mem_ofN]
      exact hji p (by omega)
    rw [refF]
    rcases best_is (P := P) (R := R) (told := told) n with ⟨_, h2⟩ | ⟨i, hi, h1, h2, _⟩
    · exact absurd hmay (h2 j hj)
    · rw [h1, if_neg (by omega), ofN_app]
      refine refF_ever hb k _ ?_ ?_ ?_
      · exact List.nodup_append.2 ⟨hn, by simp, fun a ha b hb => by simp at hb; subst hb; rintro rfl; exact h2.1 ha⟩
      · intro x hx
        rw [List.mem_append, List.mem_singleton] at hx
        rcases hx with hx | rfl
        · exact ht x hx
        · exact hi
      · simp; omega
theorem refL_ever {P : List (List Int)} {R : List Int} (hl : R.length = P.length) (hb : ∀ j, ∀ x ∈ P.getD j [], 0 ≤ x ∧ x < j) : ∃ out : List Nat, refL P R = some (ofN out) ∧ out.length = P.length ∧ Least P R P.length [] out := by
  have hall : (P.all fun l => l.all (inR P.length)) = true := by
    rw [List.all_eq_true]
    intro r hr
    rw [List.all_eq_true]
    intro x hx
    obtain ⟨j, hj⟩ := List.getElem?_of_mem hr
    have hjl := (List.getElem?_eq_some_iff.1 hj).1
    have := hb j x (by rw [List.getD_eq_getElem?_getD, hj]; exact hx)
    simp only [inR, Bool.and_eq_true, decide_eq_true_eq]
    omega
  have h1 := refF_ever (P := P) (R := R) (n := P.length) hb P.length [] .nil (by simp) (by simp)
  have h2 : refL P R = refF P R P.length P.length [] := by rw [refL, if_pos ⟨hl, hall⟩]
  rw [show ofN [] = [] from rfl, ← h2] at h1
  obtain ⟨l, hs⟩ := Option.isSome_iff_exists.1 h1
  obtain ⟨out, k1, k2, _, k3⟩ := refL_spec hs
  exact ⟨out, by rw [hs, k1], k2, k3⟩
end Go.Proofs.YtcpfgjfiacfmoaaGreatDoor
