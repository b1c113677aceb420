/-
  What Linear owns: the kids of each, the wants of each.
-/
import Derived.Test.YtbepggmidagbiaaP
import Derived.Test.YtbepggmidagbiaaAL4
set_option linter.unusedSimpArgs false
set_option linter.unusedVariables false
namespace Go.Proofs.Ytbepggmidagbiaa
open Go Go.AL

def cellsN (l : List Nat) : List (List AV) := (ofN l).map intCells
theorem cellsN_len (l : List Nat) : (cellsN l).length = l.length := by simp [cellsN, ofN]
theorem cellsN_one (l : List Nat) : ∀ e ∈ cellsN l, e.length = 1 := fun e he => by
  obtain ⟨d, _, rfl⟩ := List.mem_map.1 he; rfl
theorem cellsN_app (l : List Nat) (i : Nat) : cellsN l ++ [[.v (.int .i64 (i : Int))]] = cellsN (l ++ [i]) := by simp [cellsN, ofN, intCells]
structure Kids (H L : AHeap) (n bk bw : Nat) (ks : Nat → AV) (Kd : Nat → List Nat) (W : Nat → Nat) : Prop where
  ext : Ext H L
  k : L.get bk = some (.row 25 1 false ((List.range n).map fun p => [ks p]))
  w : L.get bw = some (.row 3 1 false ((List.range n).map fun j => intCells (W j : Nat)))
  nk : H.get bk = none
  nw : H.get bw = none
  held : ∀ p, p < n → HeldAt 3 1 L (cellsN (Kd p)) (ks p)
  fresh : ∀ p b m, p < n → ks p = .row b 1 m → H.get b = none ∧ b ≠ bw
  dist : ∀ p p' b m m', p < n → p' < n → ks p = .row b 1 m → ks p' = .row b 1 m' → p = p'
/-- a block that is none of these -/
structure Apart (H : AHeap) (n bk bw : Nat) (ks : Nat → AV) (x : Nat) : Prop where
  ak : x ≠ bk
  aw : x ≠ bw
  an : H.get x = none
  aks : ∀ p m, p < n → ks p ≠ .row x 1 m
section
variable {H L L' : AHeap} {n bk bw x : Nat} {ks : Nat → AV} {Kd : Nat → List Nat} {W : Nat → Nat}
theorem Kids.at_ (h : Kids H L n bk bw ks Kd W) {p b m : Nat} (hp : p < n) (e : ks p = .row b 1 m) : L.get b = some (.row 3 1 false (cellsN (Kd p))) ∧ m = (Kd p).length := by
  rcases h.held p hp with h1 | ⟨b', h1, h2⟩
  · rw [h1] at e; cases e
  · rw [h1] at e; cases e
    exact ⟨h2, cellsN_len _⟩
theorem Kids.apart (h : Kids H L n bk bw ks Kd W) (hx : L.get x = none) : Apart H n bk bw ks x where
  ak := by rintro rfl; rw [h.k] at hx; cases hx
  aw := by rintro rfl; rw [h.w] at hx; cases hx
  an := none_of_ext h.ext hx
  aks := fun p m hp e => by rw [(h.at_ hp e).1] at hx; cases hx
theorem Kids.apartO (h : Kids H L n bk bw ks Kd W) {o : AObj} (hx : L.get x = some o) (ho : ∀ T sz sn es, o ≠ .row T sz sn es) (hn : H.get x = none) : Apart H n bk bw ks x where
  ak := by rintro rfl; rw [h.k] at hx; cases hx; exact ho _ _ _ _ rfl
  aw := by rintro rfl; rw [h.w] at hx; cases hx; exact ho _ _ _ _ rfl
  an := hn
  aks := fun p m hp e => by rw [(h.at_ hp e).1] at hx; cases hx; exact ho _ _ _ _ rfl
theorem Kids.keep (h : Kids H L n bk bw ks Kd W) (hx : Apart H n bk bw ks x) (hL : ∀ c o, L.get c = some o → c ≠ x → L'.get c = some o) : Kids H L' n bk bw ks Kd W where
  ext := fun c o hc => hL c o (h.ext c o hc) (by rintro rfl; rw [hx.an] at hc; cases hc)
  k := hL _ _ h.k (Ne.symm hx.ak)
  w := hL _ _ h.w (Ne.symm hx.aw)
  nk := h.nk
  nw := h.nw
  held := fun p hp => by
    rcases h.held p hp with h1 | ⟨b, h1, h2⟩
    · exact .inl h1
    · exact .inr ⟨b, h1, hL _ _ h2 (by rintro rfl; exact hx.aks p _ hp h1)⟩
  fresh := h.fresh
  dist := h.dist
theorem Kids.more (h : Kids H L n bk bw ks Kd W) (hL : Ext L L') : Kids H L' n bk bw ks Kd W where
  ext := fun c o hc => hL c o (h.ext c o hc)
  k := hL _ _ h.k
  w := hL _ _ h.w
  nk := h.nk
  nw := h.nw
  held := fun p hp => by
    rcases h.held p hp with h1 | ⟨b, h1, h2⟩
    · exact .inl h1
    · exact .inr ⟨b, h1, hL _ _ h2⟩
  fresh := h.fresh
  dist := h.dist
/-- a want is written -/
theorem Kids.wset (h : Kids H L n bk bw ks Kd W) (i v : Nat) : Kids H (L.put bw (.row 3 1 false (((List.range n).map fun j => intCells (W j : Nat)).set i (intCells (v : Nat))))) n bk bw ks Kd (fun j => if j = i then v else W j) where
  ext := fun c o hc => by
    rw [AHeap.get_put, if_neg (by rintro rfl; rw [h.nw] at hc; cases hc)]
    exact h.ext c o hc
  k := by
    rw [AHeap.get_put, if_neg (by rintro e; have := h.k; rw [e, h.w] at this; cases this)]
    exact h.k
  w := by
    rw [AHeap.get_put_same, set_range]
    congr 3
    funext j
    by_cases e : j = i <;> simp [e]
  nk := h.nk
  nw := h.nw
  held := fun p hp => by
    rcases h.held p hp with h1 | ⟨b, h1, h2⟩
    · exact .inl h1
    · exact .inr ⟨b, h1, by rw [AHeap.get_put, if_neg (h.fresh p b _ hp h1).2]; exact h2⟩
  fresh := h.fresh
  dist := h.dist
/-- a kid more -/
theorem Kids.kset (h : Kids H L n bk bw ks Kd W) {p i b' : Nat} (hp : p < n) (hb : L'.get b' = some (.row 3 1 false (cellsN (Kd p ++ [i]))))
    (hL : ∀ c o, L.get c = some o → (∀ b, ks p = .row b 1 (cellsN (Kd p)).length → c ≠ b) → L'.get c = some o ∧ c ≠ b') :
    Kids H (L'.put bk (.row 25 1 false (((List.range n).map fun p => [ks p]).set p [.row b' 1 (cellsN (Kd p ++ [i])).length]))) n bk bw (fun q => if q = p then .row b' 1 (cellsN (Kd p ++ [i])).length else ks q) (fun q => if q = p then Kd p ++ [i] else Kd q) W ∧
    ∀ c o, L.get c = some o → (∀ T sz sn es, o ≠ .row T sz sn es) → (L'.put bk (.row 25 1 false (((List.range n).map fun p => [ks p]).set p [.row b' 1 (cellsN (Kd p ++ [i])).length]))).get c = some o := by
  have hk := h.k
  have hw := h.w
  have hkeep : ∀ c o, L.get c = some o → (∀ b m, ks p = .row b 1 m → c ≠ b) → L'.get c = some o ∧ c ≠ b' := fun c o hc hn => hL c o hc (fun b e => hn b _ e)
  have hbk : ∀ b m, ks p = .row b 1 m → bk ≠ b := fun b m e => by rintro rfl; rw [(h.at_ hp e).1] at hk; cases hk
  have hbw : ∀ b m, ks p = .row b 1 m → bw ≠ b := fun b m e => Ne.symm (h.fresh p b m hp e).2
  have kk := hkeep bk _ hk hbk
  have kw := hkeep bw _ hw hbw
  have hkw : bw ≠ bk := by rintro rfl; rw [hk] at hw; cases hw
  have hH : ∀ c o, H.get c = some o → L'.get c = some o ∧ c ≠ b' := fun c o hc => hkeep c o (h.ext c o hc) (fun b m e => by rintro rfl; rw [(h.fresh p _ m hp e).1] at hc; cases hc)
  have hb'n : H.get b' = none := by
    cases e : H.get b' with
    | none => rfl
    | some o => exact absurd rfl (hH b' o e).2
  have hoth : ∀ q b m, q < n → q ≠ p → ks q = .row b 1 m → L'.get b = some (.row 3 1 false (cellsN (Kd q))) ∧ b ≠ b' := fun q b m hq hne e =>
    hkeep b _ (h.at_ hq e).1 (fun b2 m2 e2 => by rintro rfl; exact hne (h.dist q p _ _ _ hq hp e e2))
  have hob : ∀ b es, L'.get b = some (.row 3 1 false es) → b ≠ bk := fun b es e => by rintro rfl; rw [kk.1] at e; cases e
  refine ⟨⟨fun c o hc => ?_, ?_, ?_, h.nk, h.nw, fun q hq => ?_, fun q b m hq e => ?_, fun q q' b m m' hq hq' e e' => ?_⟩, fun c o hc ho => ?_⟩
  · rw [AHeap.get_put, if_neg (by rintro rfl; rw [h.nk] at hc; cases hc)]
    exact (hH c o hc).1
  · rw [AHeap.get_put_same, set_range]
    congr 3
    funext j
    by_cases e : j = p <;> simp [e]
  · rw [AHeap.get_put, if_neg hkw]; exact kw.1
  · by_cases e : q = p
    · rw [if_pos e, if_pos e]
      exact .inr ⟨b', rfl, by rw [AHeap.get_put, if_neg (hob _ _ hb)]; exact hb⟩
    · rw [if_neg e, if_neg e]
      rcases h.held q hq with h1 | ⟨b, h1, h2⟩
      · exact .inl h1
      · have := (hoth q b _ hq e h1).1
        exact .inr ⟨b, h1, by rw [AHeap.get_put, if_neg (hob _ _ this)]; exact this⟩
  · skip
    by_cases e1 : q = p
    · rw [if_pos e1] at e; cases e
      exact ⟨hb'n, Ne.symm kw.2⟩
    · rw [if_neg e1] at e
      exact h.fresh q b m hq e
  · skip
    by_cases e1 : q = p
    · by_cases e2 : q' = p
      · rw [e1, e2]
      · rw [if_pos e1] at e; cases e
        rw [if_neg e2] at e'
        exact absurd rfl (hoth q' _ _ hq' e2 e').2
    · rw [if_neg e1] at e
      by_cases e2 : q' = p
      · rw [if_pos e2] at e'; cases e'
        exact absurd rfl (hoth q _ _ hq e1 e).2
      · rw [if_neg e2] at e'
        exact h.dist q q' b m m' hq hq' e e'
  · rw [AHeap.get_put, if_neg (by rintro rfl; rw [hk] at hc; cases hc; exact ho _ _ _ _ rfl)]
    exact (hkeep c o hc (fun b m e => by rintro rfl; rw [(h.at_ hp e).1] at hc; cases hc; exact ho _ _ _ _ rfl)).1
theorem range_const {α : Type} (a : α) (n : Nat) : List.replicate n a = (List.range n).map fun _ => a := by
  rw [List.map_const', List.length_range]
theorem kids_start {P : List (List Int)} (hE : Ext H L) (hk : L.get bk = none) {r : AHeap} (hr : r = L.put bk (.row 25 1 false (List.replicate ((n : Int).toNat) [.sl true []]))) (hw : r.get bw = none) :
    Kids H (r.put bw (.row 3 1 false (List.replicate ((n : Int).toNat) [.v (.int .i64 0)]))) n bk bw (fun _ => .sl true []) (kidA P 0 []) (wantA P n 0 []) where
  ext := fun c o hc => by
    subst hr
    exact get_fresh (get_fresh (hE c o hc) hk) hw
  k := by
    subst hr
    rw [get_fresh (AHeap.get_put_same _ _ _) hw, Int.toNat_natCast, range_const]
  w := by
    rw [AHeap.get_put_same, Int.toNat_natCast, range_const]
    congr 3
    funext j
    have : wantA P n 0 [] j = 0 := by
      unfold wantA
      rw [if_neg (by omega), cnt_nil]; simp
    rw [this]; rfl
  nk := none_of_ext hE hk
  nw := by
    subst hr
    exact none_of_ext hE (none_fresh hw)
  held := fun p _ => .inl rfl
  fresh := fun p b m _ e => by cases e
  dist := fun p p' b m m' _ _ e => by cases e
theorem wantA_all {P : List (List Int)} (hn : P.length = n) : wantA P n n [] = fun j => cnt n (P.getD j []) [] := by
  funext j
  unfold wantA
  by_cases h1 : j < n
  · rw [if_pos h1]
  · rw [if_neg h1]
    have : P.getD j [] = [] := by rw [List.getD_eq_getElem?_getD, List.getElem?_eq_none (by omega)]; rfl
    rw [this, cnt_nil]; simp
def kidsOf (P : List (List Int)) (n p : Nat) : List Nat := (List.range n).filter fun j => decide ((p : Int) ∈ P.getD j [])
theorem kidA_all {P : List (List Int)} : kidA P n [] = kidsOf P n := by
  funext p
  simp [kidA, kidsOf]
/-- a row of one's own, or nil -/
def Own (H L : AHeap) (n bk bw : Nat) (ks : Nat → AV) (l : List Nat) (a : AV) : Prop :=
  (a = .sl true [] ∧ l = []) ∨ ∃ b, a = .row b 1 l.length ∧ L.get b = some (.row 3 1 false (cellsN l)) ∧ Go.Proofs.Ytbepggmidagbiaa.Apart H n bk bw ks b
theorem Own.held {l : List Nat} {a : AV} (h : Own H L n bk bw ks l a) : HeldAt 3 1 L (cellsN l) a := by
  rcases h with ⟨rfl, rfl⟩ | ⟨b, rfl, h2, _⟩
  · exact .inl rfl
  · exact .inr ⟨b, by rw [cellsN_len], h2⟩
theorem Own.rowAt {l : List Nat} {a : AV} (h : Own H L n bk bw ks l a) : RowAt 3 1 H L ((ofN l).map intCells) a := by
  rcases h with ⟨rfl, rfl⟩ | ⟨b, rfl, h2, h3⟩
  · exact .inl ⟨rfl, rfl⟩
  · exact .inr ⟨b, h3.an, by rw [show ((ofN l).map intCells).length = l.length from cellsN_len l], h2⟩
theorem Own.keep {l : List Nat} {a : AV} (h : Own H L n bk bw ks l a) (hL : ∀ c o, L.get c = some o → c ≠ x → L'.get c = some o) (hx : ∀ m, a ≠ .row x 1 m) : Own H L' n bk bw ks l a := by
  rcases h with h | ⟨b, rfl, h2, h3⟩
  · exact .inl h
  · exact .inr ⟨b, rfl, hL _ _ h2 (by rintro rfl; exact hx _ rfl), h3⟩
theorem Kids.push (h : Kids H L n bk bw ks Kd W) {l : List Nat} {a : AV} (ha : Own H L n bk bw ks l a) {i b' : Nat} (hb : L'.get b' = some (.row 3 1 false (cellsN (l ++ [i]))))
    (hL : ∀ c o, L.get c = some o → (∀ b, a = .row b 1 (cellsN l).length → c ≠ b) → L'.get c = some o ∧ c ≠ b') :
    Kids H L' n bk bw ks Kd W ∧ Own H L' n bk bw ks (l ++ [i]) (.row b' 1 (cellsN (l ++ [i])).length) ∧ ∀ c o, L.get c = some o → (∀ m, a ≠ .row c 1 m) → L'.get c = some o ∧ c ≠ b' := by
  have hkeep : ∀ c o, L.get c = some o → (∀ m, a ≠ .row c 1 m) → L'.get c = some o ∧ c ≠ b' := fun c o hc hn => hL c o hc (fun b e => by rintro rfl; exact hn _ e)
  have hap : ∀ c m, a = .row c 1 m → Go.Proofs.Ytbepggmidagbiaa.Apart H n bk bw ks c := fun c m e => by
    rcases ha with ⟨rfl, _⟩ | ⟨b, rfl, _, h3⟩
    · cases e
    · cases e; exact h3
  refine ⟨?_, .inr ⟨b', by rw [cellsN_len], hb, ?_⟩, hkeep⟩
  · rcases ha with ⟨rfl, _⟩ | ⟨b, rfl, _, h3⟩
    · exact h.more (fun c o hc => (hkeep c o hc (fun m e => by cases e)).1)
    · exact h.keep h3 (fun c o hc hne => (hkeep c o hc (fun m e => by cases e; exact hne rfl)).1)
  · refine ⟨Ne.symm (hkeep bk _ h.k (fun m e => (hap _ _ e).ak rfl)).2, Ne.symm (hkeep bw _ h.w (fun m e => (hap _ _ e).aw rfl)).2, ?_, fun p m hp e => ?_⟩
    · cases e : H.get b' with
      | none => rfl
      | some o => exact absurd rfl (hkeep b' o (h.ext _ _ e) (fun m e2 => by rw [(hap _ _ e2).an] at e; cases e)).2
    · exact absurd rfl (hkeep b' _ (h.at_ hp e).1 (fun m e2 => (hap _ _ e2).aks p _ hp e)).2
theorem Own.sortB {l : List Nat} {a : AV} (h : Own H L n bk bw ks l a) : (a = .sl true [] ∧ cellsN l = []) ∨ ∃ b, a = .row b 1 (cellsN l).length ∧ L.get b = some (.row 3 1 false (cellsN l)) := by
  rcases h with ⟨rfl, rfl⟩ | ⟨b, rfl, h2, _⟩
  · exact .inl ⟨rfl, rfl⟩
  · exact .inr ⟨b, by rw [cellsN_len], h2⟩
/-- what is ready, part of a row of one's own -/
def Due (H L : AHeap) (n bk bw : Nat) (ks : Nat → AV) (aO : AV) (rd : List Nat) (a : AV) : Prop :=
  ∃ b pre, a = .vw b 1 pre.length rd.length ∧ L.get b = some (.row 3 1 false (pre ++ cellsN rd)) ∧ Go.Proofs.Ytbepggmidagbiaa.Apart H n bk bw ks b ∧ ∀ m, aO ≠ .row b 1 m
theorem Due.arr {rd : List Nat} {a aO : AV} (h : Due H L n bk bw ks aO rd a) : Arr L (ofN rd) a := by
  obtain ⟨b, pre, rfl, h2, _⟩ := h
  exact .inr (.inr ⟨b, false, pre, by rw [show (ofN rd).length = rd.length from by simp [ofN]], h2⟩)
theorem Kids.arr (h : Kids H L n bk bw ks Kd W) {p : Nat} (hp : p < n) : Arr L (ofN (Kd p)) (ks p) := by
  rcases h.held p hp with h1 | ⟨b, h1, h2⟩
  · exact .inl ⟨true, h1⟩
  · exact .inr (.inl ⟨b, false, by rw [h1, cellsN_len]; simp [ofN], h2⟩)
/-! ### sorted -/
theorem sort_swo (R : List Int) (rd : List Nat) (k : Nat) : Swo k (fun i j => lessI R (rd.getD i 0) (rd.getD j 0)) :=
  ⟨fun i _ => less_irr _, fun i j l _ _ _ => less_tr, fun i j l _ _ _ => less_ntr⟩
theorem perm_get {rd p : List Nat} (hp : p.Perm (List.range rd.length)) : (p.map fun i => rd.getD i 0).Perm rd := by
  have := hp.map fun i => rd.getD i 0
  have e : ((List.range rd.length).map fun i => rd.getD i 0) = rd := by
    apply List.ext_getElem?
    intro k
    rw [List.getElem?_map]
    by_cases hk : k < rd.length
    · rw [List.getElem?_range hk, List.getElem?_eq_getElem hk]; simp [hk]
    · rw [List.getElem?_eq_none (by simp; omega), List.getElem?_eq_none (by omega)]; rfl
  rwa [e] at this
theorem perm_cells {rd p : List Nat} (hp : p.Perm (List.range (cellsN rd).length)) : (p.map fun i => (cellsN rd).getD i []) = cellsN (p.map fun i => rd.getD i 0) := by
  rw [show cellsN (p.map fun i => rd.getD i 0) = p.map fun i => intCells (rd.getD i 0 : Nat) by simp [cellsN, ofN]]
  refine List.map_congr_left fun i hi => ?_
  have := hp.mem_iff.1 hi
  rw [List.mem_range, cellsN_len] at this
  simp [cellsN, ofN, this]
theorem sorted_rd {P : List (List Int)} {R : List Int} {rd p : List Nat} (hmem : ∀ i, i ∈ rd ↔ i < n ∧ may P [] i) (hnd : rd.Nodup) (hp : p.Perm (List.range (cellsN rd).length))
    (hs : ∀ i j a d : Nat, i < j → p[i]? = some a → p[j]? = some d → ¬ lessI R (rd.getD d 0) (rd.getD a 0) < 0) : RdOk P R n [] (p.map fun i => rd.getD i 0) := by
  rw [cellsN_len] at hp
  have h1 := perm_get hp
  refine ⟨fun i => by rw [h1.mem_iff]; exact hmem i, ?_⟩
  have h2 : (p.map fun i => rd.getD i 0).Nodup := h1.nodup_iff.2 hnd
  rw [List.pairwise_iff_getElem]
  intro i j hi hj hij
  rw [List.nodup_iff_pairwise_ne, List.pairwise_iff_getElem] at h2
  have h3 := h2 i j hi hj hij
  rw [List.length_map] at hi hj
  have h4 := hs i j _ _ hij (List.getElem?_eq_getElem hi) (List.getElem?_eq_getElem hj)
  rw [List.getElem_map, List.getElem_map] at h3 ⊢
  exact less_tot h4 (Ne.symm h3)
/-! ### how many are left -/
def rem (n : Nat) (told : List Nat) : Nat := ((List.range n).filter fun j => !decide (j ∈ told)).length
theorem rem_nil : rem n [] = n := by
  unfold rem
  rw [List.filter_eq_self.2 (by simp), List.length_range]
theorem rem_step {told : List Nat} {i : Nat} (hi : i < n) (ht : i ∉ told) : rem n told = rem n (told ++ [i]) + 1 := by
  refine filter_one List.nodup_range (List.mem_range.2 hi) ?_ ?_ (fun y hy => ?_)
  · simp [ht]
  · simp
  · simp [hy]
def DueN (H L : AHeap) (n bk bw : Nat) (ks : Nat → AV) (aO : AV) (rd : List Nat) (a : AV) : Prop := (a = .sl true [] ∧ rd = []) ∨ Due H L n bk bw ks aO rd a
theorem DueN.len {rd : List Nat} {a aO : AV} (h : DueN H L n bk bw ks aO rd a) (M : AHeap) : lenK M (.sl 3 (some 1)) a = some (.v (.int .i64 rd.length)) := by
  rcases h with ⟨rfl, rfl⟩ | ⟨b, pre, rfl, _⟩ <;> rfl
theorem vr_view {F : Addr → Value → Prop} {S : Nat → Nat → Prop} {x : Value} {b sz m : Nat} (h : VR F S x (.row b sz m)) : VR F S x (.vw b sz 0 m) := by
  cases h with
  | row hs hc hn => exact .vw hs (by rw [Nat.zero_add]; exact hc) hn (fun _ => (Nat.zero_mul _).symm)
theorem AWp_due {N : NR} {c : Code} {Q : Exit → AFr → AHeap → Prop} {fr : AFr} {t : Nat} {rd : List Nat} {a : AV} (ht : AFr.get t fr = a) (hO : Own H L n bk bw ks rd a)
    (h : ∀ a', DueN H L n bk bw ks (.sl true []) rd a' → AWp X N c Q ((t, a') :: fr) L) : AWp X N c Q fr L := by
  rcases hO with ⟨rfl, rfl⟩ | ⟨b, rfl, h2, h3⟩
  · refine AWp_weaken (h (.sl true []) (.inl ⟨rfl, rfl⟩)) (fun F S x hx k => ?_) (fun _ _ h => h)
    simp only [AFr.get]
    split
    · rename_i e; subst e; rw [← ht]; exact hx _
    · exact hx k
  · refine AWp_weaken (h (.vw b 1 0 rd.length) (.inr ⟨b, [], rfl, h2, h3, fun m e => by cases e⟩)) (fun F S x hx k => ?_) (fun _ _ h => h)
    simp only [AFr.get]
    split
    · rename_i e; subst e; have := hx t; rw [ht] at this; exact vr_view this
    · exact hx k
theorem Due.keep {rd : List Nat} {a aO : AV} (h : Due H L n bk bw ks aO rd a) (hL : ∀ c o, L.get c = some o → Go.Proofs.Ytbepggmidagbiaa.Apart H n bk bw ks c → (∀ m, aO ≠ .row c 1 m) → L'.get c = some o) : Due H L' n bk bw ks aO rd a := by
  obtain ⟨b, pre, e, h2, h3, h4⟩ := h
  exact ⟨b, pre, e, hL _ _ h2 h3 h4, h3, h4⟩
theorem nodup_rem : ∀ {l : List Nat}, l.Nodup → (∀ x ∈ l, x < n) → l.length + rem n l = n
  | [], _, _ => by rw [rem_nil]; simp
  | x :: l, hn, h => by
    rw [List.nodup_cons] at hn
    have ih := nodup_rem hn.2 (fun y hy => h y (by simp [hy]))
    have : rem n l = rem n (x :: l) + 1 := by
      refine filter_one List.nodup_range (List.mem_range.2 (h x (by simp))) ?_ ?_ (fun y hy => ?_)
      · simp [hn.1]
      · simp
      · simp [hy]
    rw [List.length_cons]; omega
theorem sorted_len {R : List Int} {rd : List Nat} (hs : rd.Pairwise fun a b => lessI R a b < 0) (h : ∀ x ∈ rd, x < n) : rd.length ≤ n := by
  have hn : rd.Nodup := hs.imp (fun {a b} hab e => by subst e; exact less_irr a hab)
  have := nodup_rem hn h
  omega
theorem cellsN_ins (rd : List Nat) (m k : Nat) : (cellsN rd).take m ++ [[.v (.int .i64 (k : Int))]] ++ (cellsN rd).drop m = cellsN (insAt rd m k) := by
  simp [cellsN, ofN, insAt, intCells]
theorem insAt_len (rd : List Nat) (m k : Nat) (h : m ≤ rd.length) : (insAt rd m k).length = rd.length + 1 := by
  simp [insAt]; omega
theorem Own.block {l : List Nat} {a : AV} (h : Own H L n bk bw ks l a) {b : Nat} (hb : L.get b = none) (m : Nat) : a ≠ .row b 1 m := fun e => by
  rcases h with ⟨rfl, _⟩ | ⟨b', rfl, h2, _⟩
  · cases e
  · cases e; rw [h2] at hb; cases hb
end
end Go.Proofs.Ytbepggmidagbiaa
