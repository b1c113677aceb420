/-
  Rows that grow in a row of rows, beside a row of ranks; all of them frozen. (Kids of O9K, where the other row holds int64.)
-/
import Derived.Test.YtcpfgjfiacfmoaaGreatDoorPPart5
import Derived.Test.YtcpfgjfiacfmoaaGreatDoorPAL4
import Derived.Test.YtcpfgjfiacfmoaaGreatDoorPPart6
import Derived.Test.YtcpfgjfiacfmoaaGreatDoorPPart10
set_option linter.unusedSimpArgs false
set_option linter.unusedVariables false
namespace Go.Proofs.YtcpfgjfiacfmoaaGreatDoor.Rk
open Go Go.AL

structure Kids (H L : AHeap) (n bk bw : Nat) (ks : Nat → AV) (Kd : Nat → List Nat) (W : Nat → Nat) : Prop where
  ext : Ext H L
  k : L.get bk = some (.row 38 1 false ((List.range n).map fun p => [ks p]))
  w : L.get bw = some (.row 2 1 false ((List.range n).map fun j => intCells (W j : Nat)))
  nk : H.get bk = none
  nw : H.get bw = none
  held : ∀ p, p < n → HeldAt 3 1 L (cellsN (Kd p)) (ks p)
  fresh : ∀ p b m, p < n → ks p = .row b 1 m → H.get b = none ∧ b ≠ bw
  dist : ∀ p p' b m m', p < n → p' < n → ks p = .row b 1 m → ks p' = .row b 1 m' → p = p'
structure Apart (H : AHeap) (n bk bw : Nat) (ks : Nat → AV) (x : Nat) : Prop where
  ak : x ≠ bk
  aw : x ≠ bw
  an : H.get x = none
  aks : ∀ p m, p < n → ks p ≠ .row x 1 m
section
variable {H L L' : AHeap} {n bk bw x : Nat} {ks : Nat → AV} {Kd : Nat → List Nat} {W : Nat → Nat}
theorem Kids.at_ (h : Kids H L n bk bw ks Kd W) {p b m : Nat} (hp : p < n) (e : ks p = .row b 1 m) : L.get b = some (.row 3 1 false (cellsN (Kd p))) ∧ m = (Kd p).length := by
  rcases h.held p hp with h1 | ⟨b', h1, h2⟩
  · rw [h1] at e; cases e
  · rw [h1] at e; cases e
    exact ⟨h2, cellsN_len _⟩
theorem Kids.apart (h : Kids H L n bk bw ks Kd W) (hx : L.get x = none) : Apart H n bk bw ks x where
  ak := by rintro rfl; rw [h.k] at hx; cases hx
  aw := by rintro rfl; rw [h.w] at hx; cases hx
  an := none_of_ext h.ext hx
  aks := fun p m hp e => by rw [(h.at_ hp e).1] at hx; cases hx
theorem Kids.apartO (h : Kids H L n bk bw ks Kd W) {o : AObj} (hx : L.get x = some o) (ho : ∀ T sz sn es, o ≠ .row T sz sn es) (hn : H.get x = none) : Apart H n bk bw ks x where
  ak := by rintro rfl; rw [h.k] at hx; cases hx; exact ho _ _ _ _ rfl
  aw := by rintro rfl; rw [h.w] at hx; cases hx; exact ho _ _ _ _ rfl
  an := hn
  aks := fun p m hp e => by rw [(h.at_ hp e).1] at hx; cases hx; exact ho _ _ _ _ rfl
theorem Kids.keep (h : Kids H L n bk bw ks Kd W) (hx : Apart H n bk bw ks x) (hL : ∀ c o, L.get c = some o → c ≠ x → L'.get c = some o) : Kids H L' n bk bw ks Kd W where
  ext := fun c o hc => hL c o (h.ext c o hc) (by rintro rfl; rw [hx.an] at hc; cases hc)
  k := hL _ _ h.k (Ne.symm hx.ak)
  w := hL _ _ h.w (Ne.symm hx.aw)
  nk := h.nk
  nw := h.nw
  held := fun p hp => by
    rcases h.held p hp with h1 | ⟨b, h1, h2⟩
    · exact .inl h1
    · exact .inr ⟨b, h1, hL _ _ h2 (by rintro rfl; exact hx.aks p _ hp h1)⟩
  fresh := h.fresh
  dist := h.dist
theorem Kids.more (h : Kids H L n bk bw ks Kd W) (hL : Ext L L') : Kids H L' n bk bw ks Kd W where
  ext := fun c o hc => hL c o (h.ext c o hc)
  k := hL _ _ h.k
  w := hL _ _ h.w
  nk := h.nk
  nw := h.nw
  held := fun p hp => by
    rcases h.held p hp with h1 | ⟨b, h1, h2⟩
    · exact .inl h1
    · exact .inr ⟨b, h1, hL _ _ h2⟩
  fresh := h.fresh
  dist := h.dist
theorem Kids.wset (h : Kids H L n bk bw ks Kd W) (i v : Nat) : Kids H (L.put bw (.row 2 1 false (((List.range n).map fun j => intCells (W j : Nat)).set i (intCells (v : Nat))))) n bk bw ks Kd (fun j => if j = i then v else W j) where
  ext := fun c o hc => by
    rw [AHeap.get_put, if_neg (by rintro rfl; rw [h.nw] at hc; cases hc)]
    exact h.ext c o hc
  k := by
    rw [AHeap.get_put, if_neg (by rintro e; have := h.k; rw [e, h.w] at this; cases this)]
    exact h.k
  w := by
    rw [AHeap.get_put_same, set_range]
    congr 3
    funext j
    by_cases e : j = i <;> simp [e]
  nk := h.nk
  nw := h.nw
  held := fun p hp => by
    rcases h.held p hp with h1 | ⟨b, h1, h2⟩
    · exact .inl h1
    · exact .inr ⟨b, h1, by rw [AHeap.get_put, if_neg (h.fresh p b _ hp h1).2]; exact h2⟩
  fresh := h.fresh
  dist := h.dist
theorem Kids.kset (h : Kids H L n bk bw ks Kd W) {p i b' : Nat} (hp : p < n) (hb : L'.get b' = some (.row 3 1 false (cellsN (Kd p ++ [i]))))
    (hL : ∀ c o, L.get c = some o → (∀ b, ks p = .row b 1 (cellsN (Kd p)).length → c ≠ b) → L'.get c = some o ∧ c ≠ b') :
    Kids H (L'.put bk (.row 38 1 false (((List.range n).map fun p => [ks p]).set p [.row b' 1 (cellsN (Kd p ++ [i])).length]))) n bk bw (fun q => if q = p then .row b' 1 (cellsN (Kd p ++ [i])).length else ks q) (fun q => if q = p then Kd p ++ [i] else Kd q) W ∧
    ∀ c o, L.get c = some o → (∀ T sz sn es, o ≠ .row T sz sn es) → (L'.put bk (.row 38 1 false (((List.range n).map fun p => [ks p]).set p [.row b' 1 (cellsN (Kd p ++ [i])).length]))).get c = some o := by
  have hk := h.k
  have hw := h.w
  have hkeep : ∀ c o, L.get c = some o → (∀ b m, ks p = .row b 1 m → c ≠ b) → L'.get c = some o ∧ c ≠ b' := fun c o hc hn => hL c o hc (fun b e => hn b _ e)
  have hbk : ∀ b m, ks p = .row b 1 m → bk ≠ b := fun b m e => by rintro rfl; rw [(h.at_ hp e).1] at hk; cases hk
  have hbw : ∀ b m, ks p = .row b 1 m → bw ≠ b := fun b m e => Ne.symm (h.fresh p b m hp e).2
  have kk := hkeep bk _ hk hbk
  have kw := hkeep bw _ hw hbw
  have hkw : bw ≠ bk := by rintro rfl; rw [hk] at hw; cases hw
  have hH : ∀ c o, H.get c = some o → L'.get c = some o ∧ c ≠ b' := fun c o hc => hkeep c o (h.ext c o hc) (fun b m e => by rintro rfl; rw [(h.fresh p _ m hp e).1] at hc; cases hc)
  have hb'n : H.get b' = none := by
    cases e : H.get b' with
    | none => rfl
    | some o => exact absurd rfl (hH b' o e).2
  have hoth : ∀ q b m, q < n → q ≠ p → ks q = .row b 1 m → L'.get b = some (.row 3 1 false (cellsN (Kd q))) ∧ b ≠ b' := fun q b m hq hne e =>
    hkeep b _ (h.at_ hq e).1 (fun b2 m2 e2 => by rintro rfl; exact hne (h.dist q p _ _ _ hq hp e e2))
  have hob : ∀ b es, L'.get b = some (.row 3 1 false es) → b ≠ bk := fun b es e => by rintro rfl; rw [kk.1] at e; cases e
  refine ⟨⟨fun c o hc => ?_, ?_, ?_, h.nk, h.nw, fun q hq => ?_, fun q b m hq e => ?_, fun q q' b m m' hq hq' e e' => ?_⟩, fun c o hc ho => ?_⟩
  · rw [AHeap.get_put, if_neg (by rintro rfl; rw [h.nk] at hc; cases hc)]
    exact (hH c o hc).1
  · rw [AHeap.get_put_same, set_range]
    congr 3
    funext j
    by_cases e : j = p <;> simp [e]
  · rw [AHeap.get_put, if_neg hkw]; exact kw.1
  · by_cases e : q = p
    · rw [if_pos e, if_pos e]
      exact .inr ⟨b', rfl, by rw [AHeap.get_put, if_neg (hob _ _ hb)]; exact hb⟩
    · rw [if_neg e, if_neg e]
      rcases h.held q hq with h1 | ⟨b, h1, h2⟩
      · exact .inl h1
      · have := (hoth q b _ hq e h1).1
        exact .inr ⟨b, h1, by rw [AHeap.get_put, if_neg (hob _ _ this)]; exact this⟩
  · skip
    by_cases e1 : q = p
    · rw [if_pos e1] at e; cases e
      exact ⟨hb'n, Ne.symm kw.2⟩
    · rw [if_neg e1] at e
      exact h.fresh q b m hq e
  · skip
    by_cases e1 : q = p
    · by_cases e2 : q' = p
      · rw [e1, e2]
      · rw [if_pos e1] at e; cases e
        rw [if_neg e2] at e'
        exact absurd rfl (hoth q' _ _ hq' e2 e').2
    · rw [if_neg e1] at e
      by_cases e2 : q' = p
      · rw [if_pos e2] at e'; cases e'
        exact absurd rfl (hoth q _ _ hq e1 e).2
      · rw [if_neg e2] at e'
        exact h.dist q q' b m m' hq hq' e e'
  · rw [AHeap.get_put, if_neg (by rintro rfl; rw [hk] at hc; cases hc; exact ho _ _ _ _ rfl)]
    exact (hkeep c o hc (fun b m e => by rintro rfl; rw [(h.at_ hp e).1] at hc; cases hc; exact ho _ _ _ _ rfl)).1
end
theorem kids_start {H L : AHeap} {n bk bw : Nat} (hE : Ext H L) (hk : L.get bk = none) {r : AHeap} (hr : r = L.put bk (.row 38 1 false (List.replicate ((n : Int).toNat) [.sl true []]))) (hw : r.get bw = none) :
    Kids H (r.put bw (.row 2 1 false (List.replicate ((n : Int).toNat) [.v (.int .i64 0)]))) n bk bw (fun _ => .sl true []) (fun _ => []) (fun _ => 0) where
  ext := fun c o hc => by
    subst hr
    exact get_fresh (get_fresh (hE c o hc) hk) hw
  k := by
    subst hr
    rw [get_fresh (AHeap.get_put_same _ _ _) hw, Int.toNat_natCast, range_const]
  w := by
    rw [AHeap.get_put_same, Int.toNat_natCast, range_const]
    rfl
  nk := none_of_ext hE hk
  nw := by
    subst hr
    exact none_of_ext hE (none_fresh hw)
  held := fun p _ => .inl rfl
  fresh := fun p b m _ e => by cases e
  dist := fun p p' b m m' _ _ e => by cases e
def tight (a : AV) : Bool := match a with | .sl _ _ => true | _ => false
theorem snapss_range (b : Nat) (es : List (List AV)) (f : Nat → AV) : ∀ l : List Nat, AV.snapss b 1 es (l.map fun p => [f p]) = l.map fun p => [AV.snap b 1 es (f p)]
  | [] => rfl
  | x :: l => by
    simp only [List.map_cons, AV.snapss, AV.snaps, snapss_range b es f l]
theorem snap_cellsN (b sz : Nat) (es : List (List AV)) : ∀ l : List Nat, AV.snapss b sz es (cellsN l) = cellsN l := fun l => snapss_map (fun _ => rfl) (ofN l)
section
variable {X : Ctx} {N : NR} {c : Code} {Q : Exit → AFr → AHeap → Prop} {fr0 : AFr} {H L : AHeap} {n bk bw : Nat} {ks : Nat → AV} {Kd : Nat → List Nat} {W : Nat → Nat}
theorem frozen (h : Kids H L n bk bw ks Kd W) (hfr : ∀ b sz es, AFr.snap b sz es fr0 = fr0) (t1 t2 : Nat)
    (k : AWp X N c Q ((t1, .sl false ((List.range n).map fun p => [.sl (tight (ks p)) (cellsN (Kd p))])) :: (t2, .sl false ((List.range n).map fun j => intCells (W j : Nat))) :: fr0) H) :
    AWp X N c Q ((t1, .row bk 1 n) :: (t2, .row bw 1 n) :: fr0) L := by
  have hkw : bk ≠ bw := by rintro rfl; have := h.k; rw [h.w] at this; cases this
  have main : ∀ d m, d + m = n → ∀ L : AHeap, L.get bk = some (.row 38 1 false ((List.range n).map fun p => [if p < m then .sl (tight (ks p)) (cellsN (Kd p)) else ks p])) → L.get bw = some (.row 2 1 false ((List.range n).map fun j => intCells (W j : Nat))) → Ext H L →
      (∀ p, m ≤ p → p < n → HeldAt 3 1 L (cellsN (Kd p)) (ks p)) → AWp X N c Q ((t1, .row bk 1 n) :: (t2, .row bw 1 n) :: fr0) L := by
    intro d
    induction d with
    | zero =>
      intro m hm L gk gw hE _
      have hmn : m = n := by omega
      subst hmn
      have e1 : ((List.range m).map fun p => [if p < m then AV.sl (tight (ks p)) (cellsN (Kd p)) else ks p]) = (List.range m).map fun p => [AV.sl (tight (ks p)) (cellsN (Kd p))] := by
        apply List.map_congr_left
        intro p hp
        rw [if_pos (List.mem_range.1 hp)]
      rw [e1] at gk
      refine AWp.snap gk ?_
      have gw2 : (L.put bk (.row 38 1 true ((List.range m).map fun p => [AV.sl (tight (ks p)) (cellsN (Kd p))]))).get bw = some (.row 2 1 false ((List.range m).map fun j => intCells (W j : Nat))) := by
        rw [AHeap.get_put, if_neg (Ne.symm hkw)]; exact gw
      refine AWp.snap gw2 ?_
      refine AWp.drop (K := H) ?_ ?_
      · intro c o hc
        rw [AHeap.get_put, if_neg (by rintro rfl; rw [h.nw] at hc; cases hc), AHeap.get_put, if_neg (by rintro rfl; rw [h.nk] at hc; cases hc)]
        exact hE c o hc
      · simp only [AFr.snap, AV.snap, hfr, if_neg (Ne.symm hkw), if_true, true_and, List.length_map, List.length_range, Nat.le_refl, and_self, reduceIte]
        have t1' : ((List.range m).map fun p => [AV.sl (tight (ks p)) (cellsN (Kd p))]).take m = (List.range m).map fun p => [AV.sl (tight (ks p)) (cellsN (Kd p))] := List.take_of_length_le (by simp)
        have t2' : ((List.range m).map fun j => intCells (W j : Nat)).take m = (List.range m).map fun j => intCells (W j : Nat) := List.take_of_length_le (by simp)
        rw [t1', t2', snapss_range bw _ (fun p => AV.sl (tight (ks p)) (cellsN (Kd p)))]
        simp only [AV.snap, snap_cellsN]
        exact k
    | succ d ih =>
      intro m hm L gk gw hE hH
      have hmn : m < n := by omega
      rcases hH m (Nat.le_refl _) hmn with e | ⟨b, e, gb⟩
      · refine ih (m + 1) (by omega) L ?_ gw hE (fun p h1 h2 => hH p (by omega) h2)
        rw [gk]
        congr 2
        apply List.map_congr_left
        intro p _
        by_cases h1 : p < m
        · rw [if_pos h1, if_pos (by omega)]
        · by_cases h2 : p = m
          · subst h2
            rw [if_neg h1, if_pos (by omega), e]; rfl
          · rw [if_neg h1, if_neg (by omega)]
      · have hbk : bk ≠ b := by rintro rfl; rw [gk] at gb; cases gb
        have hfb := h.fresh m b _ hmn e
        refine AWp.snapRow gb gk hbk ?_
        have hF : AFr.snap b 1 (cellsN (Kd m)) ((t1, .row bk 1 n) :: (t2, .row bw 1 n) :: fr0) = (t1, .row bk 1 n) :: (t2, .row bw 1 n) :: fr0 := by
          simp only [AFr.snap, AV.snap, hfr, if_neg hbk, if_neg (Ne.symm hfb.2)]
        rw [hF]
        refine ih (m + 1) (by omega) _ ?_ ?_ ?_ ?_
        · rw [AHeap.get_put_same, snapss_range]
          congr 2
          apply List.map_congr_left
          intro p hp
          have hpn := List.mem_range.1 hp
          by_cases h1 : p < m
          · rw [if_pos h1, if_pos (by omega)]
            simp only [AV.snap, snap_cellsN]
          · by_cases h2 : p = m
            · subst h2
              rw [if_neg h1, if_pos (by omega), e]
              simp [AV.snap, tight]
            · rw [if_neg h1, if_neg (by omega)]
              rcases hH p (by omega) hpn with e2 | ⟨b2, e2, gb2⟩
              · rw [e2]; simp only [AV.snap, snap_cellsN]
              · have : b2 ≠ b := by
                  rintro rfl
                  exact h2 (h.dist p m _ _ _ hpn hmn e2 e)
                rw [e2]; simp only [AV.snap, if_neg this]
        · rw [AHeap.get_put, if_neg (Ne.symm hkw), AHeap.get_put, if_neg (Ne.symm hfb.2)]; exact gw
        · intro c o hc
          rw [AHeap.get_put, if_neg (by rintro rfl; rw [h.nk] at hc; cases hc), AHeap.get_put, if_neg (by rintro rfl; rw [hfb.1] at hc; cases hc)]
          exact hE c o hc
        · intro p h1 h2
          rcases hH p (by omega) h2 with e2 | ⟨b2, e2, gb2⟩
          · exact .inl e2
          · have hb2 : b2 ≠ b := by
              rintro rfl
              have := h.dist p m _ _ _ h2 hmn e2 e
              omega
            have hb3 : b2 ≠ bk := by rintro rfl; rw [gk] at gb2; cases gb2
            exact .inr ⟨b2, e2, by rw [AHeap.get_put, if_neg hb3, AHeap.get_put, if_neg hb2]; exact gb2⟩
  refine main n 0 (by omega) L ?_ h.w h.ext (fun p _ hp => h.held p hp)
  rw [h.k]
  congr 2
end
end Go.Proofs.YtcpfgjfiacfmoaaGreatDoor.Rk

set_option linter.unusedSimpArgs false
set_option linter.unusedVariables false
set_option maxRecDepth 100000
namespace Go.Proofs.YtcpfgjfiacfmoaaGreatDoor
open Go Go.AL
attribute [local irreducible] AOps AWp SOps AE AT ACall AApp

theorem seen_put {r : List Int} {x : Int} {es : List (Int × AV)} (h : ∀ y, kfind y es = if y ∈ r then some (.v (.bool true)) else none) : ∀ y, kfind y (kput x (.v (.bool true)) es) = if y ∈ r ++ [x] then some (.v (.bool true)) else none := fun y => by
  rw [kfind_kput]
  by_cases e : x = y
  · subst e; simp
  · rw [if_neg e, h y]
    simp [Ne.symm e]
set_option maxHeartbeats 4000000 in
theorem linear_g (t1 : Bool) (P : List (List Int)) (R : List Int) (hP : P.length ≤ 1000) (hPP : ∀ r ∈ P, r.length ≤ 1000) (hR : R.length ≤ 1000) (H : AHeap) (O : Option (List Int)) (hO : refL P R = O) :
    ACall X 52 [.sl t1 (P.map rowCells), .sl false (R.map intCells)] H fun a L => ∃ L0 a1, a = .tup [a1, .v (.int .i64 (if O.isSome then 0 else 1))] ∧ Ext H L0 ∧ Gr 3 1 L0 ((O.getD []).map intCells) a1 L := by
  refine ACall_intro Tryz.func52 rfl (by kernel_rfl) (by rw [Tryz.ntmps52]; simp) ?_; rw [Tryz.ntmps52]; simp only [frame0, Nat.reduceAdd]
  apply sR; intro K hK
  apply s_box; decide; exact (by simp only [go_sem]; try rfl); exact (by simp only [go_sem]; try rfl); intro q hq
  have e1 := AHeap.get_put_same q (.box 73 [.sl false (R.map intCells)]) H
  have e3 := Ext.fresh hq (o := .box 73 [.sl false (R.map intCells)])
  generalize AHeap.put q (.box 73 [.sl false (R.map intCells)]) H = M at e1 e3 ⊢
  ((iterate 2 (refine qr ?_)); refine s_nil (hK _ _ ?_); clear hK K; apply sR; intro K hK; (iterate 3 (refine qr ?_)); refine s_nil (hK _ _ ?_); clear hK K; apply sK; intro K hK; apply sR; intro K hK)
  apply s_q; decide; rfl; exact (by simp only [go_sem, e1]; try rfl)
  ((iterate 3 (refine qr ?_)); refine s_nil (hK _ _ ?_); clear hK K)
  refine cs (fun hc => ?_) (fun hc => ?_)
  · have hne : R.length ≠ P.length := by simp at hc; omega
    rw [refL, if_neg (fun h => hne h.1)] at hO
    subst hO
    (apply sR; intro K hK; (iterate 2 (refine qr ?_)); refine s_nil (hK _ _ ?_); clear hK K; apply AWp_ret; simp only [AThen, ABlock]; apply end_ret; rfl; simp only [AFr.get, reduceIte, Nat.reduceEqDiff])
    exact ⟨M, .sl true [], rfl, e3, .inl ⟨rfl, rfl, rfl⟩⟩
  have hRP : R.length = P.length := by simp at hc; omega
  clear hc
  obtain ⟨n, hn⟩ : ∃ n, P.length = n := ⟨_, rfl⟩
  rw [hn]
  (refine AWp_skip (hK _ _ ?_); clear hK K; apply sR; intro K hK; refine qr ?_)
  apply s_make; decide; exact el_32; exact (by simp only [go_sem]; try rfl); exact (by simp only [go_sem]; try rfl); exact zc_38; (refine ⟨by omega, by omega, by decide⟩); intro bk hbk
  (refine qr ?_; refine s_nil (hK _ _ ?_); clear hK K; apply sR; intro K hK; refine qr ?_)
  apply s_make; decide; exact el_38; exact (by simp only [go_sem]; try rfl); exact (by simp only [go_sem]; try rfl); exact zc_3; (refine ⟨by omega, by omega, by decide⟩); intro bw hbw
  have hKids : Kids H ((M.put bk (.row 38 1 false (List.replicate ((n : Int).toNat) [.sl true []]))).put bw (.row 3 1 false (List.replicate ((n : Int).toNat) [.v (.int .i64 0)]))) n bk bw (fun _ => .sl true []) (kidA P 0 []) (wantA P n 0 []) := kids_start e3 hbk rfl hbw
  have hqL : ((M.put bk (.row 38 1 false (List.replicate ((n : Int).toNat) [.sl true []]))).put bw (.row 3 1 false (List.replicate ((n : Int).toNat) [.v (.int .i64 0)]))).get q = some (.box 73 [.sl false (R.map intCells)]) := get_fresh (get_fresh e1 hbk) hbw
  generalize (M.put bk (.row 38 1 false (List.replicate ((n : Int).toNat) [.sl true []]))).put bw (.row 3 1 false (List.replicate ((n : Int).toNat) [.v (.int .i64 0)])) = L0 at hKids hqL ⊢
  (refine qr ?_; refine s_nil (hK _ _ ?_); clear hK K; apply sK; intro K hK; apply sR; intro K hK; (iterate 3 (refine qr ?_)); refine s_nil (hK _ _ ?_); clear hK K; apply AWp_block)
  refine AWp_loop_s (σ := Nat × AHeap × (Nat → AV)) [3, 6, 7, 8, 34, 35, 36] (fun s => [ptrTo q, .v (.int .i64 n), .row bk 1 n, .row bw 1 n, .sl t1 (P.map rowCells), .v (.int .i64 n), .v (.int .i64 s.1)]) (fun s => s.2.1) (fun s => n - s.1)
    (fun s => s.1 ≤ n ∧ Kids H s.2.1 n bk bw s.2.2 (kidA P s.1 []) (wantA P n s.1 []) ∧ s.2.1.get q = some (.box 73 [.sl false (R.map intCells)]) ∧ (P.take s.1).all (fun l => l.all (inR n)) = true) (0, L0, fun _ => .sl true []) ⟨Nat.zero_le _, hKids, hqL, rfl⟩ (by simp [getAll, AFr.get, hn]) rfl (fun s hs => ?_)
  obtain ⟨i, L, ks⟩ := s
  obtain ⟨hi, hKd, hqL, hall⟩ := hs
  clear hKids
  simp only [List.zip_cons_cons, List.zip_nil_right] at hi hKd hqL hall ⊢
  (apply sR; intro K hK; refine qr ?_; refine s_nil (hK _ _ ?_); clear hK K; apply sK; intro K hK)
  refine cs (fun hd => ?_) (fun hd => ?_)
  · have hlt : i < n := by simpa using hd
    obtain ⟨r, hr⟩ := gete (l := P) (i := i) (by omega)
    have hgr := row_at hr
    have hrl := hPP r (List.mem_of_getElem? hr)
    (refine AWp_skip (hK _ _ ?_); clear hK K; apply sK; intro K hK; apply AWp_block; apply sR; intro K hK; (iterate 5 (apply s_q; decide; rfl; (simp only [go_sem, hgr]; rfl))); refine s_nil (hK _ _ ?_); clear hK K; apply sR; intro K hK; apply s_imap; decide; exact mp_76; intro b hb; apply s_q; decide; rfl; (simp only [go_sem, hgr]; rfl); refine s_nil (hK _ _ ?_); clear hK K; apply sR; intro K hK; (iterate 3 (apply s_q; decide; rfl; (simp only [go_sem, hgr]; rfl))); refine s_nil (hK _ _ ?_); clear hK K; apply AWp_block)
    obtain ⟨sb, hsb⟩ : ∃ b3, b3 = b := ⟨_, rfl⟩
    have hb3 := hb
    rw [← hsb] at hb3 ⊢
    clear hb hsb b
    have hHsb := none_of_ext hKd.ext hb3
    have hs1 := AHeap.get_put_same sb (.imap .i64 []) L
    have hs2 := get_fresh hqL hb3 (x := .imap .i64 [])
    have hs3 := hKd.more (Ext.fresh hb3 (o := .imap .i64 []))
    generalize L.put sb (.imap .i64 []) = L1 at hs1 hs2 hs3 ⊢
    refine AWp_loop_s (σ := Nat × AHeap × (Nat → AV) × List (Int × AV)) [3, 6, 7, 8, 9, 11, 34, 35, 36, 42, 43, 44] (fun s => [ptrTo q, .v (.int .i64 n), .row bk 1 n, .row bw 1 n, .v (.int .i64 i), .v (.map (some sb)), .sl t1 (P.map rowCells), .v (.int .i64 n), .v (.int .i64 i), .sl false (r.map intCells), .v (.int .i64 (r.length : Nat)), .v (.int .i64 s.1)]) (fun s => s.2.1) (fun s => r.length - s.1)
      (fun s => s.1 ≤ r.length ∧ Kids H s.2.1 n bk bw s.2.2.1 (kidA P i (r.take s.1)) (wantA P n i (r.take s.1)) ∧ s.2.1.get q = some (.box 73 [.sl false (R.map intCells)]) ∧ s.2.1.get sb = some (.imap .i64 s.2.2.2) ∧ (∀ y, kfind y s.2.2.2 = if y ∈ r.take s.1 then some (.v (.bool true)) else none) ∧ (r.take s.1).all (inR n) = true)
      (0, L1, ks, []) ⟨Nat.zero_le _, hs3, hs2, hs1, fun y => by simp [kfind], rfl⟩ rfl rfl (fun s hs => ?_)
    obtain ⟨k, L2, ks2, es⟩ := s
    obtain ⟨hk, hKd2, hqL2, hsL2, hes, hrin⟩ := hs
    clear hKd hqL hs1 hs2 hs3
    simp only [List.zip_cons_cons, List.zip_nil_right] at hk hKd2 hqL2 hsL2 hes hrin ⊢
    (apply sR; intro K hK; refine qr ?_; refine s_nil (hK _ _ ?_); clear hK K; apply sK; intro K hK)
    refine cs (fun he => ?_) (fun he => ?_)
    · have hkl : k < r.length := by simpa using he
      obtain ⟨x, hx⟩ := gete hkl
      have hgx := int_at hx
      (refine AWp_skip (hK _ _ ?_); clear hK K; apply sK; intro K hK; apply AWp_block; apply sR; intro K hK; (iterate 3 (apply s_q; decide; rfl; (simp only [go_sem, hgx]; rfl))); refine s_nil (hK _ _ ?_); clear hK K; apply sK; intro K hK; apply sR; intro K hK; (iterate 3 (apply s_q; decide; rfl; (simp only [go_sem, hgx]; rfl))); (iterate 2 (apply s_spec; decide; rfl; rfl; (iterate 4 (simp only [go_sem, hgx]; rfl)); trivial)); apply s_spec; decide; rfl; rfl; (iterate 4 (simp only [go_sem, hgx]; rfl)); simp [condsOk]; apply s_pick; decide; (iterate 6 (simp only [go_sem, hgx]; rfl)); trivial; trivial; simp [condsOk]; refine s_nil (hK _ _ ?_); clear hK K)
      refine cs (fun hz => ?_) (fun hz => ?_)
      · have hbad : inR P.length x = false := by
          rw [inR, hn]; revert hz; simp; omega
        have hno : refL P R = none := by
          rw [refL, if_neg]
          rintro ⟨_, h2⟩
          rw [not_all hr (not_all hx hbad)] at h2
          cases h2
        rw [hno] at hO
        subst hO
        (apply sR; intro K hK; (iterate 2 (refine qr ?_)); refine s_nil (hK _ _ ?_); clear hK K; apply AWp_ret; simp only [AThen, ABlock]; apply end_ret; rfl; simp only [AFr.get, reduceIte, Nat.reduceEqDiff])
        exact ⟨L2, .sl true [], rfl, hKd2.ext, .inl ⟨rfl, rfl, rfl⟩⟩
      · have hgood : inR n x = true := by
          rw [inR]; revert hz; simp
        obtain ⟨xn, rfl⟩ : ∃ xn : Nat, x = xn := ⟨x.toNat, by simp [inR] at hgood; omega⟩
        have hxn : xn < n := by simp [inR] at hgood; exact hgood
        have hseen := hes xn
        by_cases hin : (xn : Int) ∈ r.take k
        · rw [if_pos hin] at hseen
          (refine AWp_skip (hK _ _ ?_); clear hK K; apply sR; intro K hK; (iterate 4 (apply s_q; decide; rfl; (simp only [go_sem, hsL2, hseen]; rfl))); refine s_nil (hK _ _ ?_); clear hK K)
          refine cs (fun hy => ?_) (fun hy => ?_)
          · cases hy
          (refine AWp_skip (hK _ _ ?_); clear hK K; apply s_region; (iterate 2 (refine qr ?_)); apply s_nil; simp only [AThen, ABlock])
          refine ⟨(k + 1, L2, ks2, es), by simp only; omega, ⟨by simp only; omega, ?_, hqL2, hsL2, fun y => ?_, ?_⟩, ?_, by trivial⟩
          · simp only
            rw [take_succ hx, kidA_again hin, wantA_again hin]; exact hKd2
          · simp only
            rw [hes y, take_succ hx]
            by_cases e : y = (xn : Int)
            · subst e; simp [hin]
            · simp [e]
          · simp only
            rw [all_take hx hrin]; exact hgood
          · simp only [getAll, List.map, AFr.get, reduceIte, Nat.reduceEqDiff]
            rw [wrapS hkl (by omega)]; try rfl
        · rw [if_neg hin] at hseen
          (refine AWp_skip (hK _ _ ?_); clear hK K; apply sR; intro K hK; (iterate 4 (apply s_q; decide; rfl; (simp only [go_sem, hsL2, hseen]; rfl))); refine s_nil (hK _ _ ?_); clear hK K)
          refine cs (fun hy => ?_) (fun hy => ?_)
          rotate_left
          · cases hy
          apply sR; intro K hK
          ((iterate 2 (apply s_q; decide; rfl; (simp only [go_sem, hsL2]; rfl))); apply s_mapput; (iterate 4 (simp only [go_sem, hsL2]; rfl)))
          refine s_nil (hK _ _ ?_); clear hK K
          have a1 := hKd2.keep (L' := L2.put sb (.imap .i64 (kput (xn : Int) (.v (.bool true)) es))) (hKd2.apartO hsL2 (by intro _ _ _ _ h; cases h) hHsb) (fun c o hc hne => by rw [AHeap.get_put, if_neg hne]; exact hc)
          have a2 := get_other (x := .imap .i64 (kput (xn : Int) (.v (.bool true)) es)) hqL2 (show q ≠ sb by rintro rfl; rw [hsL2] at hqL2; cases hqL2)
          have a3 := AHeap.get_put_same sb (.imap .i64 (kput (xn : Int) (.v (.bool true)) es)) L2
          generalize AHeap.put sb (.imap .i64 (kput (xn : Int) (.v (.bool true)) es)) L2 = L3 at a1 a2 a3 ⊢
          have a4 := a1.k
          have hgk := get_range (fun p => [ks2 p]) hxn
          have hlt3 : ((xn : Int) < (n : Int)) = True := by simp; omega
          (apply sR; intro K hK; (iterate 7 (apply s_q; decide; rfl; (simp only [go_sem, a4, hgk, hlt3]; rfl))); apply s_lit; decide; exact el_38; (iterate 2 (simp only [go_sem, a4, hgk, hlt3]; rfl)); decide)
          have hkl1 := kidA_len P i (r.take k) xn
          apply s_append; decide; exact (by simp only [go_sem]; try rfl); exact (by simp only [go_sem]; try rfl); apply AApp_push el_38 (a1.held xn hxn) (cellsN_one _) (nes := [[.v (.int .i64 (i : Int))]]) (fun M => src_sl tk_38 (fun e he => by simp at he; subst he; exact ⟨rfl, rfl⟩)) (by simp) (by rw [cellsN_len]; simp; omega) (by rw [cellsN_len]; simp; omega); intro nb L4 k1 k2
          rw [cellsN_app] at k1 ⊢
          obtain ⟨b1, b2⟩ := a1.kset hxn k1 k2
          have b3 := b2 q _ a2 (by intro _ _ _ _ h; cases h)
          have b4 := b2 sb _ a3 (by intro _ _ _ _ h; cases h)
          have b5 : L4.get bk = some (.row 38 1 false ((List.range n).map fun p => [ks2 p])) := (k2 bk _ a4 (fun b e => by rintro rfl; rw [(a1.at_ hxn e).1] at a4; cases a4)).1
          clear b2 k2 k1 a1 a2 a3 a4
          (apply s_q; decide; rfl; (simp only [go_sem, b5, hgk, hlt3]; rfl); apply s_store; (iterate 3 (simp only [go_sem, b5, hgk, hlt3]; rfl)))
          refine s_nil (hK _ _ ?_); clear hK K
          generalize AHeap.put bk (.row 38 1 false (((List.range n).map fun p => [ks2 p]).set xn [.row nb 1 (cellsN (kidA P i (r.take k) xn ++ [i])).length])) L4 = L5 at b1 b3 b4 ⊢
          have b6 := b1.w
          have hgw : ((List.range n).map fun j => intCells (wantA P n i (r.take k) j : Nat))[i]? = some [.v (.int .i64 (wantA P n i (r.take k) i : Nat))] := get_range _ hlt
          have hlt4 : ((i : Int) < (n : Int)) = True := by simp; omega
          have hwl : wantA P n i (r.take k) i ≤ 1000 := by
            unfold wantA; rw [if_neg (Nat.lt_irrefl _), if_pos rfl]; exact Nat.le_trans (cnt_le _ _ _) (by omega)
          have e5 : IntKind.i64.wrap ((wantA P n i (r.take k) i : Int) + 1) = ((wantA P n i (r.take k) i + 1 : Nat) : Int) := by rw [wrap64 (by omega)]; omega
          (apply s_region; (iterate 6 (apply s_q; decide; rfl; (simp only [go_sem, b6, hgw, hlt4, e5]; rfl))); apply s_store; (iterate 3 (simp only [go_sem, b6, hgw, hlt4, e5]; rfl)); refine s_nil (hK _ _ ?_); clear hK K; apply s_region; (iterate 2 (apply s_q; decide; rfl; (simp only [go_sem, b6, hgw, hlt4, e5]; rfl))); apply s_nil; simp only [AThen, ABlock])
          have b7 := b1.wset i (wantA P n i (r.take k) i + 1)
          have c3 := get_other (x := .row 3 1 false (((List.range n).map fun j => intCells (wantA P n i (r.take k) j : Nat)).set i (intCells ((wantA P n i (r.take k) i + 1 : Nat) : Int)))) b3 (show q ≠ bw by rintro rfl; rw [b6] at b3; cases b3)
          have c4 := get_other (x := .row 3 1 false (((List.range n).map fun j => intCells (wantA P n i (r.take k) j : Nat)).set i (intCells ((wantA P n i (r.take k) i + 1 : Nat) : Int)))) b4 (show sb ≠ bw by rintro rfl; rw [b6] at b4; cases b4)
          refine ⟨(k + 1, AHeap.put bw (.row 3 1 false (((List.range n).map fun j => intCells (wantA P n i (r.take k) j : Nat)).set i (intCells ((wantA P n i (r.take k) i + 1 : Nat) : Int)))) L5, fun p => if p = xn then .row nb 1 (cellsN (kidA P i (r.take k) xn ++ [i])).length else ks2 p, kput (xn : Int) (.v (.bool true)) es), by simp only; omega, ⟨by simp only; omega, ?_, c3, c4, fun y => ?_, ?_⟩, ?_, by rfl⟩
          · simp only
            rw [take_succ hx, kidA_push hin, wantA_push hxn hin]; exact b7
          · simp only
            rw [take_succ hx]; exact seen_put hes y
          · simp only
            rw [all_take hx hrin]; exact hgood
          · simp only [getAll, List.map, AFr.get, reduceIte, Nat.reduceEqDiff]
            rw [wrapS hkl (by omega)]; try rfl
    · have hge : r.length ≤ k := by simpa using he
      have hall2 : r.all (inR n) = true := by rw [← hrin, List.take_of_length_le hge]
      (apply AWp_exit; simp only [AThen, ABlock, reduceIte, Nat.reduceEqDiff]; clear hK K; refine hK _ _ ?_; clear hK K; apply s_region; (iterate 2 (refine qr ?_)); apply s_nil; simp only [AThen, ABlock])
      refine ⟨(i + 1, L2, ks2), by simp only; omega, ⟨by simp only; omega, ?_, hqL2, ?_⟩, ?_, by trivial⟩
      · simp only
        rw [List.take_of_length_le hge] at hKd2
        rw [kidA_next hr, wantA_next hr]; exact hKd2
      · simp only
        rw [all_take hr hall]; exact hall2
      · simp only [getAll, List.map, AFr.get, reduceIte, Nat.reduceEqDiff]
        rw [wrapS hlt (by omega)]; try rfl
  · have hge : n = i := by simp at hd; omega
    subst hge
    rw [← hn, List.take_length] at hall
    rw [refL, if_pos ⟨hRP, hall⟩] at hO
    apply AWp_exit; simp only [AThen, ABlock, reduceIte, Nat.reduceEqDiff]; clear hK K; refine hK _ _ ?_; clear hK K
    have hqN : H.get q = none := hq
    rw [wantA_all hn, kidA_all] at hKd
    refine AWp_cut [3, 6, 7, 8] (vs := [ptrTo q, .v (.int .i64 n), .row bk 1 n, .row bw 1 n]) rfl ?_
    simp only [List.zip_cons_cons, List.zip_nil_right]
    refine AWp.freeze (t := 3) hqL rfl (by decide) ?_
    have d1 : Kids H (L.del q) n bk bw ks (kidsOf P n) (fun j => cnt n (P.getD j []) []) := hKd.keep (hKd.apartO hqL (by intro _ _ _ _ h; cases h) hqN) (fun c o hc hne => by rw [AHeap.get_del, if_neg hne]; exact hc)
    clear hKd hqL
    generalize AHeap.del q L = L1 at d1 ⊢
    (apply sR; intro K hK; (iterate 2 (refine qr ?_)); refine s_nil (hK _ _ ?_); clear hK K; apply sR; intro K hK; (iterate 2 (refine qr ?_)); refine s_nil (hK _ _ ?_); clear hK K; apply sK; intro K hK; apply sR; intro K hK; (iterate 3 (refine qr ?_)); refine s_nil (hK _ _ ?_); clear hK K; apply AWp_block)
    refine AWp_loop_s (σ := Nat × AHeap × AV) [6, 7, 8, 14, 15, 16, 80, 81, 82] (fun s => [.v (.int .i64 n), .row bk 1 n, .row bw 1 n, .fn (.func 86) [] [.fp [.sl false (R.map intCells)]], s.2.2, .sl true [], .row bw 1 n, .v (.int .i64 n), .v (.int .i64 s.1)]) (fun s => s.2.1) (fun s => n - s.1)
      (fun s => s.1 ≤ n ∧ Kids H s.2.1 n bk bw ks (kidsOf P n) (fun j => cnt n (P.getD j []) []) ∧ Own H s.2.1 n bk bw ks ((List.range s.1).filter fun j => decide (cnt n (P.getD j []) [] = 0)) s.2.2) (0, L1, .sl true []) ⟨Nat.zero_le _, d1, .inl ⟨rfl, rfl⟩⟩ rfl rfl (fun s hs => ?_)
    obtain ⟨i, L, aR⟩ := s
    obtain ⟨hi, hKd, hOwn⟩ := hs
    clear d1
    simp only [List.zip_cons_cons, List.zip_nil_right] at hi hKd hOwn ⊢
    (apply sR; intro K hK; refine qr ?_; refine s_nil (hK _ _ ?_); clear hK K; apply sK; intro K hK)
    refine cs (fun hd => ?_) (fun hd => ?_)
    · have hlt : i < n := by simpa using hd
      have hgw : ((List.range n).map fun j => intCells (cnt n (P.getD j []) [] : Nat))[i]? = some [.v (.int .i64 (cnt n (P.getD i []) [] : Nat))] := get_range _ hlt
      have hlt4 : ((i : Int) < (n : Int)) = True := by simp; omega
      have hw := hKd.w
      (refine AWp_skip (hK _ _ ?_); clear hK K; apply sK; intro K hK; apply AWp_block; apply sR; intro K hK; (iterate 5 (apply s_q; decide; rfl; (simp only [go_sem, hw, hgw, hlt4]; rfl))); refine s_nil (hK _ _ ?_); clear hK K; apply sR; intro K hK; (iterate 2 (apply s_q; decide; rfl; (simp only [go_sem, hw, hgw, hlt4]; rfl))); refine s_nil (hK _ _ ?_); clear hK K)
      refine cs (fun hz => ?_) (fun hz => ?_)
      · have hz : cnt n (P.getD i []) [] = 0 := by simpa using hz
        have hfl : ((List.range i).filter fun j => decide (cnt n (P.getD j []) [] = 0)).length ≤ 1000 := Nat.le_trans (List.length_filter_le _ _) (by simp; omega)
        (apply s_region; (iterate 2 (refine qr ?_)); apply s_lit; decide; exact el_38; (iterate 2 (simp only [go_sem]; rfl)); decide)
        apply s_append; decide; exact (by simp only [go_sem]; try rfl); exact (by simp only [go_sem]; try rfl); apply AApp_push el_38 hOwn.held (cellsN_one _) (nes := [[.v (.int .i64 (i : Int))]]) (fun M => src_sl tk_38 (fun e he => by simp at he; subst he; exact ⟨rfl, rfl⟩)) (by simp) (by rw [cellsN_len, List.length_singleton]; omega) (by rw [cellsN_len, List.length_singleton]; omega); intro nb L4 k1 k2
        rw [cellsN_app] at k1 ⊢
        obtain ⟨b1, b2, b3⟩ := hKd.push hOwn k1 k2
        (refine qr ?_; refine s_nil (hK _ _ ?_); clear hK K; apply s_region; (iterate 2 (refine qr ?_)); apply s_nil; simp only [AThen, ABlock])
        refine ⟨(i + 1, L4, .row nb 1 (cellsN (((List.range i).filter fun j => decide (cnt n (P.getD j []) [] = 0)) ++ [i])).length), by simp only; omega, ⟨by simp only; omega, b1, ?_⟩, ?_, by rfl⟩
        · simp only
          rw [List.range_succ, List.filter_append, List.filter_cons, if_pos (by simpa using hz)]
          exact b2
        · simp only [getAll, List.map, AFr.get, reduceIte, Nat.reduceEqDiff]
          rw [wrapS hlt (by omega)]; try rfl
      · have hz : ¬ cnt n (P.getD i []) [] = 0 := by simpa using hz
        (refine AWp_skip (hK _ _ ?_); clear hK K; apply s_region; (iterate 2 (refine qr ?_)); apply s_nil; simp only [AThen, ABlock])
        refine ⟨(i + 1, L, aR), by simp only; omega, ⟨by simp only; omega, hKd, ?_⟩, ?_, by rfl⟩
        · simp only
          rw [List.range_succ, List.filter_append, List.filter_cons, if_neg (by simpa using hz), List.filter_nil, List.append_nil]
          exact hOwn
        · simp only [getAll, List.map, AFr.get, reduceIte, Nat.reduceEqDiff]
          rw [wrapS hlt (by omega)]; try rfl
    · have hge : n = i := by simp at hd; omega
      rw [← hge] at hOwn
      obtain ⟨rd0, hrd0⟩ : ∃ rd0, ((List.range n).filter fun j => decide (cnt n (P.getD j []) [] = 0)) = rd0 := ⟨_, rfl⟩
      have hAll : AllIn P n := fun j x hx => by
        rw [hn, List.all_eq_true] at hall
        rw [List.getD_eq_getElem?_getD] at hx
        cases hj : P[j]? with
        | none => rw [hj] at hx; cases hx
        | some r =>
          rw [hj] at hx
          have := hall r (List.mem_of_getElem? hj)
          rw [List.all_eq_true] at this
          exact this x hx
      have hmem0 : ∀ i, i ∈ rd0 ↔ i < n ∧ may P [] i := fun i => by
        rw [← hrd0, List.mem_filter, List.mem_range, decide_eq_true_iff, cnt_zero (hAll i)]
        exact ⟨fun h => ⟨h.1, by simp, h.2⟩, fun h => ⟨h.1, h.2.2⟩⟩
      have hnd0 : rd0.Nodup := by rw [← hrd0]; exact List.nodup_range.filter _
      have hl0 : rd0.length ≤ 1000 := by
        rw [← hrd0]; exact Nat.le_trans (List.length_filter_le _ _) (by rw [List.length_range]; omega)
      rw [hrd0] at hOwn
      apply AWp_exit; simp only [AThen, ABlock, reduceIte, Nat.reduceEqDiff]; clear hK K; refine hK _ _ ?_; clear hK K
      refine AWp_cut [6, 7, 8, 14, 15, 16] (vs := [.v (.int .i64 n), .row bk 1 n, .row bw 1 n, .fn (.func 86) [] [.fp [.sl false (R.map intCells)]], aR, .sl true []]) rfl ?_
      simp only [List.zip_cons_cons, List.zip_nil_right]
      (apply sR; intro K hK; (iterate 2 (refine qr ?_)))
      apply s_call; decide; exact (by simp only [go_sem]; try rfl); exact (by simp only [go_sem]; try rfl)
      refine ACall_sortB (k := 1) (mkA := fun bs => bs.headD .top) (c := fun i j => lessI R (rd0.getD i 0) (rd0.getD j 0)) sorts62 (by kernel_rfl) (by kernel_rfl) mk_one hOwn.sortB (by rw [cellsN_len]; omega) (fun x hx => ?_) (sort_swo R rd0 _) (fun i j x y hx hy K2 hK2 => ?_) (fun p L5 hp1 hp2 hp3 => ?_)
      · obtain ⟨d, _, rfl⟩ := List.mem_map.1 hx; rfl
      · obtain ⟨a, ha⟩ := gete (l := rd0) (i := i) (by have := (List.getElem?_eq_some_iff.1 hx).1; rwa [cellsN_len] at this)
        obtain ⟨b, hb⟩ := gete (l := rd0) (i := j) (by have := (List.getElem?_eq_some_iff.1 hy).1; rwa [cellsN_len] at this)
        have hxa : x = [.v (.int .i64 (a : Int))] := by
          rw [cellsN, ofN, List.map_map, List.getElem?_map, ha] at hx; cases hx; rfl
        have hyb : y = [.v (.int .i64 (b : Int))] := by
          rw [cellsN, ofN, List.map_map, List.getElem?_map, hb] at hy; cases hy; rfl
        subst hxa; subst hyb
        have hai := (hmem0 a).1 (List.mem_of_getElem? ha)
        have hbi := (hmem0 b).1 (List.mem_of_getElem? hb)
        refine lessd_c R a b (by omega) (by omega) _ K2 ?_
        rw [List.getD_eq_getElem?_getD, ha, List.getD_eq_getElem?_getD, hb] at hK2
        exact hK2
      obtain ⟨rd1, hrd1⟩ : ∃ rd1, (p.map fun i => rd0.getD i 0) = rd1 := ⟨_, rfl⟩
      have hRd := sorted_rd (P := P) (R := R) hmem0 hnd0 hp1 hp2
      have hcl1 := perm_cells hp1
      have hlen1 : rd1.length = rd0.length := by
        have := hp1.length_eq
        rw [← hrd1, List.length_map, this, List.length_range, cellsN_len]
      rw [hrd1] at hRd hcl1
      have f1 : Kids H L5 n bk bw ks (kidsOf P n) (fun j => cnt n (P.getD j []) []) ∧ Own H L5 n bk bw ks rd1 aR := by
        rcases hOwn with ⟨rfl, h0⟩ | ⟨b, rfl, h2, h3⟩
        · rcases hp3 with ⟨_, _, rfl⟩ | ⟨b, h1, _⟩
          · refine ⟨hKd, .inl ⟨rfl, ?_⟩⟩
            rw [h0] at hlen1
            exact List.eq_nil_of_length_eq_zero hlen1
          · cases h1
        · rcases hp3 with ⟨h1, _⟩ | ⟨b2, h1, _, rfl⟩
          · cases h1
          · rw [cellsN_len] at h1
            cases h1
            rw [hcl1]
            exact ⟨hKd.keep h3 (fun c o hc hne => by rw [AHeap.get_put, if_neg hne]; exact hc), .inr ⟨b, by rw [hlen1], AHeap.get_put_same _ _ _, h3⟩⟩
      obtain ⟨f1, f2⟩ := f1
      clear hp3 hKd hOwn
      refine s_nil (hK _ _ ?_); clear hK K
      refine AWp_due (t := 15) (by simp only [AFr.get, reduceIte, Nat.reduceEqDiff]) f2 (fun aR' hDue => ?_)
      refine AWp_cut [6, 7, 8, 14, 15, 16] (vs := [.v (.int .i64 n), .row bk 1 n, .row bw 1 n, .fn (.func 86) [] [.fp [.sl false (R.map intCells)]], aR', .sl true []]) (by simp only [getAll, List.map, AFr.get, reduceIte, Nat.reduceEqDiff]) ?_
      simp only [List.zip_cons_cons, List.zip_nil_right]
      clear f2
      (apply sK; intro K hK; apply AWp_block)
      have hin1 : ∀ j ∈ ([] : List Nat), rdy P [] j = true := fun j hj => by cases hj
      have hin2 : ([] : List Nat).length + rem n [] = n := by rw [rem_nil]; simp
      have hin3 : refF P R n (n - ([] : List Nat).length) (ofN []) = O := by rw [← hO, hn]; rfl
      refine AWp_loop_s (σ := List Nat × List Nat × AV × AV × AHeap × (Nat → Nat)) [6, 7, 8, 14, 15, 16] (fun s => [.v (.int .i64 n), .row bk 1 n, .row bw 1 n, .fn (.func 86) [] [.fp [.sl false (R.map intCells)]], s.2.2.2.1, s.2.2.1]) (fun s => s.2.2.2.2.1) (fun s => rem n s.1)
        (fun s => Kids H s.2.2.2.2.1 n bk bw ks (kidsOf P n) s.2.2.2.2.2 ∧ Own H s.2.2.2.2.1 n bk bw ks s.1 s.2.2.1 ∧ DueN H s.2.2.2.2.1 n bk bw ks s.2.2.1 s.2.1 s.2.2.2.1 ∧ RdOk P R n s.1 s.2.1 ∧ (∀ j, j < n → s.2.2.2.2.2 j = cnt n (P.getD j []) s.1) ∧
          (∀ j ∈ s.1, rdy P s.1 j = true) ∧ s.1.length + rem n s.1 = n ∧ refF P R n (n - s.1.length) (ofN s.1) = O)
        ([], rd1, .sl true [], aR', L5, fun j => cnt n (P.getD j []) []) ⟨f1, .inl ⟨rfl, rfl⟩, hDue, hRd, fun _ _ => rfl, hin1, hin2, hin3⟩ rfl rfl (fun s hs => ?_)
      obtain ⟨told, rd, aO, aR2, L, W⟩ := s
      obtain ⟨hKd, hOwn, hD, hOk, hW, hcl, hrem, hF⟩ := hs
      simp only [List.zip_cons_cons, List.zip_nil_right] at hKd hOwn hD hOk hW hcl hrem hF ⊢
      clear f1 hDue hRd
      have hlo := hD.len L
      (apply sK; intro K hK; apply sR; intro K hK; refine qr ?_; (apply s_q; decide; rfl; (simp only [go_sem]; exact hlo)); refine qr ?_; refine s_nil (hK _ _ ?_); clear hK K)
      refine cs (fun hw => ?_) (fun hw => ?_)
      · obtain ⟨i, rd, rfl⟩ : ∃ i rd', rd = i :: rd' := by
          cases rd with
          | nil => simp at hw
          | cons i rd => exact ⟨i, rd, rfl⟩
        have hmay := (hOk.mem i).1 (by simp)
        have hin := hmay.1
        have hit := hmay.2.1
        have hlt := rem_step hin hit
        clear hlo
        rcases hD with ⟨_, h0⟩ | hD
        · cases h0
        have hg0 := (hD.arr.at_ (i := 0) (a := (i : Int)) rfl)
        obtain ⟨pp, hpp, hpc⟩ := hg0
        (refine AWp_skip (hK _ _ ?_); clear hK K; apply AWp_block; apply sR; intro K hK; refine qr ?_)
        apply s_q; decide; rfl; (simp only [pvK, AFr.ev, AFr.get, reduceIte, Nat.reduceEqDiff, tk_38]; exact hpp)
        apply s_q; decide; rfl; (simp only [pvK, AFr.ev, AFr.get, reduceIte, Nat.reduceEqDiff, lay_3, hpc, Option.bind_some, ldK]; rfl)
        obtain ⟨br, pre, rfl, hbr, hap, hne⟩ := hD
        have hsl : sliceK (.sl 3 (some 1)) (.vw br 1 pre.length (i :: rd).length) (some (.v (.int .i64 1))) none none = some (.vw br 1 (pre.length + 1) rd.length) := by simp [sliceK, boundV]
        (refine qr ?_; refine s_nil (hK _ _ ?_); clear hK K; apply sR; intro K hK; refine qr ?_; (apply s_q; decide; rfl; (simp only [pvK, AFr.ev, AFr.get, reduceIte, Nat.reduceEqDiff, tk_38, Option.map_some, Option.map_none, AV.ofC]; exact hsl)); refine qr ?_; refine s_nil (hK _ _ ?_); clear hK K; apply sR; intro K hK; (iterate 2 (refine qr ?_)); apply s_lit; decide; exact el_38; (iterate 2 (simp only [go_sem]; rfl)); decide)
        apply s_append; decide; exact (by simp only [go_sem]; try rfl); exact (by simp only [go_sem]; try rfl); apply AApp_push el_38 hOwn.held (cellsN_one _) (nes := [[.v (.int .i64 (i : Int))]]) (fun M => src_sl tk_38 (fun e he => by simp at he; subst he; exact ⟨rfl, rfl⟩)) (by simp) (by rw [cellsN_len, List.length_singleton]; omega) (by rw [cellsN_len, List.length_singleton]; omega); intro nb L4 k1 k2
        rw [cellsN_app] at k1 ⊢
        obtain ⟨b1, b2, b3⟩ := hKd.push hOwn k1 k2
        obtain ⟨b4, b5⟩ := b3 br _ hbr hne
        have b6 : Due H L4 n bk bw ks (.row nb 1 (cellsN (told ++ [i])).length) rd (.vw br 1 (pre.length + 1) rd.length) := by
          refine ⟨br, pre ++ [[.v (.int .i64 (i : Int))]], by simp, ?_, hap, fun m e => by cases e; exact b5 rfl⟩
          rw [b4]
          simp [cellsN, ofN, intCells]
        clear b3 b4 b5 k1 k2 hKd hOwn hbr hne
        have hk := b1.k
        have hgk := get_range (fun p => [ks p]) hin
        have hlt4 : ((i : Int) < (n : Int)) = True := by simp; omega
        have hlk := held_len (e' := 3) (s' := some 1) (b1.held i hin) L4
        rw [cellsN_len] at hlk
        have harr := fun (L : AHeap) (W : Nat → Nat) (h : Kids H L n bk bw ks (kidsOf P n) W) => h.arr hin
        (apply s_q; decide; rfl; (simp only [go_sem, hk, hgk, hlt4]; rfl); refine s_nil (hK _ _ ?_); clear hK K; apply sR; intro K hK; (iterate 4 (apply s_q; decide; rfl; (simp only [go_sem, hk, hgk, hlt4]; rfl))); (apply s_q; decide; rfl; (simp only [go_sem]; exact hlk)); apply s_q; decide; rfl; (simp only [go_sem, hk, hgk, hlt4]; rfl); refine s_nil (hK _ _ ?_); clear hK K; apply AWp_block)
        have hkdl : (kidsOf P n i).length ≤ n := Nat.le_trans (List.length_filter_le _ _) (by rw [List.length_range]; omega)
        have hkd : ∀ j, j < n → (j ∈ kidsOf P n i ↔ (i : Int) ∈ P.getD j []) := fun j hj => by
          rw [kidsOf, List.mem_filter, List.mem_range, decide_eq_true_iff]
          exact ⟨fun h => h.2, fun h => ⟨hj, h⟩⟩
        have hkdn : (kidsOf P n i).Nodup := List.nodup_range.filter _
        have hkdb : ∀ j ∈ kidsOf P n i, j < n := fun j hj => by
          rw [kidsOf, List.mem_filter, List.mem_range] at hj; exact hj.1
        obtain ⟨kd, hkde⟩ : ∃ kd, kidsOf P n i = kd := ⟨_, rfl⟩
        rw [hkde] at hkdl hkd hkdn hkdb harr ⊢
        have hMid := mid_start hOk hW
        refine AWp_loop_s (σ := Nat × List Nat × AV × AHeap × (Nat → Nat)) [6, 7, 8, 14, 15, 16, 112, 113, 114] (fun s => [.v (.int .i64 n), .row bk 1 n, .row bw 1 n, .fn (.func 86) [] [.fp [.sl false (R.map intCells)]], s.2.2.1, .row nb 1 (cellsN (told ++ [i])).length, ks i, .v (.int .i64 (kd.length : Nat)), .v (.int .i64 s.1)]) (fun s => s.2.2.2.1) (fun s => kd.length - s.1)
          (fun s => s.1 ≤ kd.length ∧ Kids H s.2.2.2.1 n bk bw ks (kidsOf P n) s.2.2.2.2 ∧ Own H s.2.2.2.1 n bk bw ks (told ++ [i]) (.row nb 1 (cellsN (told ++ [i])).length) ∧ Due H s.2.2.2.1 n bk bw ks (.row nb 1 (cellsN (told ++ [i])).length) s.2.1 s.2.2.1 ∧ Mid P R n told i (kd.take s.1) s.2.1 s.2.2.2.2)
          (0, rd, .vw br 1 (pre.length + 1) rd.length, L4, W) ⟨Nat.zero_le _, b1, b2, b6, hMid⟩ rfl rfl (fun s hs => ?_)
        obtain ⟨m, rd2, aR3, L6, W2⟩ := s
        obtain ⟨hm, hKd, hOwn, hD, hMd⟩ := hs
        clear b1 b2 b6 hMid hlk
        simp only [List.zip_cons_cons, List.zip_nil_right] at hm hKd hOwn hD hMd ⊢
        (apply sR; intro K hK; refine qr ?_; refine s_nil (hK _ _ ?_); clear hK K; apply sK; intro K hK)
        refine cs (fun he => ?_) (fun he => ?_)
        · have hml : m < kd.length := by simpa using he
          obtain ⟨k, hkk⟩ := gete hml
          have hkn := hkdb k (List.mem_of_getElem? hkk)
          have hki := (hkd k hkn).1 (List.mem_of_getElem? hkk)
          have hknt : k ∉ kd.take m := fun hc => by
            obtain ⟨j, hj, e⟩ := List.mem_take_iff_getElem.1 hc
            have := nodup_inj hkdn hkk (by rw [← e]; exact List.getElem?_eq_getElem (by omega))
            omega
          obtain ⟨m1, m2, m3, m4⟩ := mid_kid hMd hAll hcl hin hit hmay.2 hkn hknt hki
          have hcnt := cnt_le n (P.getD k []) (told ++ [i])
          have hk' : (ofN kd)[m]? = some (k : Int) := by rw [ofN, List.getElem?_map, hkk]; rfl
          obtain ⟨pp, hpp, hpc⟩ := (harr L6 W2 hKd).at_ hk'
          obtain ⟨c, hc⟩ : ∃ c, cnt n (P.getD k []) (told ++ [i]) = c := ⟨_, rfl⟩
          rw [hc] at m1 m3 m4 hcnt
          (refine AWp_skip (hK _ _ ?_); clear hK K; apply sK; intro K hK; apply AWp_block; apply sR; intro K hK)
          apply s_q; decide; rfl; (simp only [pvK, AFr.ev, AFr.get, reduceIte, Nat.reduceEqDiff, tk_38]; exact hpp)
          apply s_q; decide; rfl; (simp only [pvK, AFr.ev, AFr.get, reduceIte, Nat.reduceEqDiff, lay_3, hpc, Option.bind_some, ldK]; rfl)
          have hw := hKd.w
          have hgw : ((List.range n).map fun j => intCells (W2 j : Nat))[k]? = some [.v (.int .i64 ((c + 1 : Nat) : Int))] := by rw [get_range _ hkn, m1]; rfl
          have hlt5 : ((k : Int) < (n : Int)) = True := by simp; omega
          have e5 : IntKind.i64.wrap (((c + 1 : Nat) : Int) - 1) = ((c : Nat) : Int) := by rw [wrap64 (by omega)]; omega
          (refine qr ?_)
          refine s_nil (hK _ _ ?_); clear hK K
          apply sR; intro K hK
          ((iterate 6 (apply s_q; decide; rfl; (simp only [go_sem, hw, hgw, hlt5, e5]; rfl))); apply s_store; (iterate 3 (simp only [go_sem, hw, hgw, hlt5, e5]; rfl)))
          refine s_nil (hK _ _ ?_); clear hK K
          have c1 := hKd.wset k c
          have hnb : ∀ m, (AV.row nb 1 (cellsN (told ++ [i])).length) ≠ .row bw 1 m := fun m e => by
            rcases hOwn with ⟨h1, _⟩ | ⟨b, h1, _, h3⟩
            · cases h1
            · rw [cellsN_len] at h1; cases h1; cases e; exact h3.aw rfl
          have c2 : Own H (L6.put bw (.row 3 1 false (((List.range n).map fun j => intCells (W2 j : Nat)).set k (intCells (c : Nat))))) n bk bw ks (told ++ [i]) (.row nb 1 (cellsN (told ++ [i])).length) := hOwn.keep (fun c o hc hne => by rw [AHeap.get_put, if_neg hne]; exact hc) hnb
          have c3 : Due H (L6.put bw (.row 3 1 false (((List.range n).map fun j => intCells (W2 j : Nat)).set k (intCells (c : Nat))))) n bk bw ks (.row nb 1 (cellsN (told ++ [i])).length) rd2 aR3 := hD.keep (fun c o hc ha _ => by rw [AHeap.get_put, if_neg ha.aw]; exact hc)
          have hL7 : L6.put bw (.row 3 1 false (((List.range n).map fun j => intCells (W2 j : Nat)).set k [.v (.int .i64 ((c : Nat) : Int))])) = L6.put bw (.row 3 1 false (((List.range n).map fun j => intCells (W2 j : Nat)).set k (intCells (c : Nat)))) := rfl
          rw [hL7]
          clear hL7 hKd hOwn hD hw hgw hpc hpp
          generalize L6.put bw (.row 3 1 false (((List.range n).map fun j => intCells (W2 j : Nat)).set k (intCells (c : Nat)))) = L7 at c1 c2 c3 ⊢
          obtain ⟨W3, hW3⟩ : ∃ W3, (fun j => if j = k then c else W2 j) = W3 := ⟨_, rfl⟩
          rw [hW3] at c1 m3 m4
          have hw := c1.w
          have hgw : ((List.range n).map fun j => intCells (W3 j : Nat))[k]? = some [.v (.int .i64 ((c : Nat) : Int))] := by rw [get_range _ hkn, ← hW3]; simp [intCells]
          (apply sR; intro K hK; (iterate 5 (apply s_q; decide; rfl; (simp only [go_sem, hw, hgw, hlt5]; rfl))); refine s_nil (hK _ _ ?_); clear hK K)
          refine cs (fun hz => ?_) (fun hz => ?_)
          · have hz : c = 0 := by simpa using hz
            have mm := m3 hz
            subst hz
            have hlenL : (ofN rd2).length = rd2.length := by simp [ofN]
            have hrdl : rd2.length ≤ n := sorted_len hMd.sorted (fun x hx => ((hMd.mem x).1 hx).1)
            apply sR; intro K hK
            ((iterate 3 (refine qr ?_)); apply s_call; decide; (iterate 2 (simp only [go_sem]; rfl)); apply search_c R rd2 k (placeOf R rd2 k) aR3 (fun x hx => by have := ((hMd.mem x).1 hx).1; omega) (by omega) (by omega) L7 (ofN rd2) rfl c3.arr place_le place_lt (place_ge hMd.sorted); intro fnd; (iterate 5 (refine qr ?_)))
            refine s_nil (hK _ _ ?_); clear hK K
            obtain ⟨br2, pre2, rfl, k1, k2, k3⟩ := c3
            apply s_region
            apply s_q; decide; rfl; exact (by simp only [go_sem]; try rfl)
            apply s_q; decide; rfl; exact (by simp only [go_sem]; try rfl)
            apply s_q; decide; rfl; exact (by simp only [go_sem]; try rfl)
            apply s_litrow; decide; exact el_38; exact (by simp only [go_sem]; try rfl); exact (by simp only [go_sem]; try rfl); decide; intro vb hvb
            apply s_call; decide; exact (by simp only [go_sem]; try rfl); exact (by simp only [go_sem]; try rfl)
            refine ACall_insert inserts89 (by kernel_rfl) (get_fresh k1 hvb) rfl (cellsN_len rd2).symm (AHeap.get_put_same _ _ _) (by rintro rfl; rw [k1] at hvb; cases hvb) place_le (by omega) (by decide) (fun x hx => ?_) rfl (fun b' pre' L' g1 g2 g3 => ?_)
            · obtain ⟨d, _, rfl⟩ := List.mem_map.1 hx; rfl
            rw [cellsN_ins] at g1
            have hkp : ∀ c o, L7.get c = some o → c ≠ br2 → L'.get c = some o := fun c o hc hne => g3 c o (get_fresh hc hvb) hne
            have r1 := c1.keep k2 hkp
            have r2 := c2.keep hkp k3
            have r3 : Due H L' n bk bw ks (.row nb 1 (cellsN (told ++ [i])).length) (insAt rd2 (placeOf R rd2 k) k) (.vw b' 1 pre'.length (rd2.length + 1)) := by
              refine ⟨b', pre', by rw [insAt_len _ _ _ place_le], g1, ?_, ?_⟩
              · rcases g2 with rfl | g2
                · exact k2
                · exact c1.apart (none_fresh g2)
              · rcases g2 with rfl | g2
                · exact k3
                · exact fun m => c2.block (none_fresh g2) m
            (refine qr ?_; refine s_nil (hK _ _ ?_); clear hK K; apply s_region; (iterate 2 (refine qr ?_)); apply s_nil; simp only [AThen, ABlock])
            refine ⟨(m + 1, insAt rd2 (placeOf R rd2 k) k, .vw b' 1 pre'.length (rd2.length + 1), L', W3), by simp only; omega, ⟨by simp only; omega, r1, r2, r3, by simp only; rw [take_succ hkk]; exact mm⟩, ?_, by rfl⟩
            simp only [getAll, List.map, AFr.get, reduceIte, Nat.reduceEqDiff]
            rw [wrapS hml (by omega)]; try rfl
          · have hz : ¬ c = 0 := by simpa using hz
            have mm := m4 hz
            (refine AWp_skip (hK _ _ ?_); clear hK K; apply s_region; (iterate 2 (refine qr ?_)); apply s_nil; simp only [AThen, ABlock])
            refine ⟨(m + 1, rd2, aR3, L7, W3), by simp only; omega, ⟨by simp only; omega, c1, c2, c3, by simp only; rw [take_succ hkk]; exact mm⟩, ?_, by rfl⟩
            simp only [getAll, List.map, AFr.get, reduceIte, Nat.reduceEqDiff]
            rw [wrapS hml (by omega)]; try rfl
        · have hge : kd.length ≤ m := by simpa using he
          rw [List.take_of_length_le hge] at hMd
          obtain ⟨q1, q2⟩ := mid_end hMd hkd
          (apply AWp_exit; simp only [AThen, ABlock, reduceIte, Nat.reduceEqDiff])
          refine ⟨(told ++ [i], rd2, .row nb 1 (cellsN (told ++ [i])).length, aR3, L6, W2), by simp only; omega, ⟨hKd, hOwn, .inr hD, q1, q2, closed_step hcl hmay.2, ?_, ?_⟩, ?_, by rfl⟩
          · simp only
            rw [List.length_append, List.length_singleton]; omega
          · simp only
            rw [← refF_step hOk (by omega)]; exact hF
          · simp only [getAll, List.map, AFr.get, reduceIte, Nat.reduceEqDiff]
      · have hge : rd = [] := by
          cases rd with
          | nil => rfl
          | cons i rd => simp at hw
        subst hge
        have hlo2 := held_len (e' := 3) (s' := some 1) hOwn.held L
        rw [cellsN_len] at hlo2
        (apply AWp_exit; simp only [AThen, ABlock, reduceIte, Nat.reduceEqDiff]; clear hK K; refine hK _ _ ?_; clear hK K; apply sK; intro K hK; apply sR; intro K hK; refine qr ?_; (apply s_q; decide; rfl; (simp only [go_sem]; exact hlo2)); (iterate 2 (refine qr ?_)); refine s_nil (hK _ _ ?_); clear hK K)
        refine cs (fun hq2 => ?_) (fun hq2 => ?_)
        · have hlt : told.length < n := by simpa using hq2
          rw [refF_stop hOk hlt] at hF
          subst hF
          (apply sR; intro K hK; (iterate 2 (refine qr ?_)); refine s_nil (hK _ _ ?_); clear hK K; apply AWp_ret; simp only [AThen, ABlock]; apply end_ret; rfl; simp only [AFr.get, reduceIte, Nat.reduceEqDiff])
          exact ⟨L, .sl true [], rfl, hKd.ext, .inl ⟨rfl, rfl, rfl⟩⟩
        · have hge2 : told.length = n := by simp at hq2; omega
          rw [hge2, Nat.sub_self, refF] at hF
          subst hF
          (refine AWp_skip (hK _ _ ?_); clear hK K; apply sR; intro K hK; (iterate 3 (refine qr ?_)); refine s_nil (hK _ _ ?_); clear hK K; apply AWp_ret)
          obtain ⟨L8, h1, h2⟩ := hOwn.rowAt.toGr hKd.ext
          exact ⟨L8, aO, rfl, h1, h2⟩
end Go.Proofs.YtcpfgjfiacfmoaaGreatDoor

set_option linter.unusedSimpArgs false
set_option linter.unusedVariables false
set_option maxRecDepth 100000
namespace Go.Proofs.YtcpfgjfiacfmoaaGreatDoor
open Go Go.AL

def levF (p : Pa) : Int → Int := fun k => levN p k.toNat
def parL (p : Pa) (ls : List Int) (x : Int) : List Nat := (List.range ls.length).filter fun k => decide (ls.getD k 0 ∈ chainL p.auth [x])
def rnkL (p : Pa) (ls : List Int) (x : Int) : Nat := (ls.filter fun y => ltB p (levF p) y x).length
def powP (p : Pa) (ls : List Int) : List (List Int) := ls.map fun x => ofN (parL p ls x)
def powR (p : Pa) (ls : List Int) : List Int := ls.map fun x => (rnkL p ls x : Int)
def powO (p : Pa) (ls : List Int) : List Int := ((refL (powP p ls) (powR p ls)).getD []).map fun k => ls.getD k.toNat 0
def powA (p : Pa) (l : List Int) : List Int := if rightB p = true then powO p (setL p.events.length l) else []
theorem parL_len (p : Pa) (ls : List Int) (x : Int) : (parL p ls x).length ≤ ls.length := by
  rw [parL]
  exact Nat.le_trans (List.length_filter_le _ _) (by rw [List.length_range]; omega)
theorem powP_len (p : Pa) (ls : List Int) : (powP p ls).length = ls.length := by rw [powP, List.length_map]
theorem powP_row {p : Pa} {ls : List Int} : ∀ r ∈ powP p ls, r.length ≤ ls.length := fun r hr => by
  rw [powP] at hr
  obtain ⟨x, _, rfl⟩ := List.mem_map.1 hr
  rw [ofN, List.length_map]; exact parL_len p ls x
theorem powR_len (p : Pa) (ls : List Int) : (powR p ls).length = ls.length := by rw [powR, List.length_map]
theorem refF_in {P : List (List Int)} {R : List Int} {n : Nat} : ∀ (k : Nat) (told l : List Int), (∀ x ∈ told, inR n x = true) → refF P R n k told = some l → ∀ x ∈ l, inR n x = true
  | 0, told, l, h, e => by rw [refF] at e; cases e; exact h
  | k + 1, told, l, h, e => by
    rw [refF] at e
    split at e
    · cases e
    · rename_i hb
      refine refF_in k _ l (fun x hx => ?_) e
      rcases List.mem_append.1 hx with hx | hx
      · exact h x hx
      · rw [List.mem_singleton] at hx
        subst hx
        rcases bestU_lt P R told n with e2 | ⟨j, hj, e2⟩
        · omega
        · rw [e2, inR]; simp; exact hj
theorem refL_in {P : List (List Int)} {R : List Int} : ∀ x ∈ (refL P R).getD [], inR P.length x = true := by
  cases h : refL P R with
  | none => intro x hx; cases hx
  | some l =>
    rw [refL] at h
    split at h
    · exact refF_in _ _ l (fun x hx => by cases hx) h
    · cases h
theorem refF_size {P : List (List Int)} {R : List Int} {n : Nat} : ∀ (k : Nat) (told l : List Int), refF P R n k told = some l → l.length = told.length + k
  | 0, told, l, h => by rw [refF] at h; cases h; rfl
  | k + 1, told, l, h => by
    rw [refF] at h
    split at h
    · cases h
    · have := refF_size k _ _ h
      simp at this; omega
theorem refL_size {P : List (List Int)} {R : List Int} : ((refL P R).getD []).length ≤ P.length := by
  cases h : refL P R with
  | none => simp
  | some l =>
    unfold refL at h
    split at h
    · have := refF_size _ _ _ h
      simp at this; simp [this]
    · cases h
theorem rnk_pos {p : Pa} {ls s : List Int} (h : Ordered p (levF p) ls s) {j : Nat} {x : Int} (hx : s[j]? = some x) : rnkL p ls x = j := by
  rw [rnkL, ← (h.2.filter _).length_eq]
  exact pos_count (ltB_irr p (levF p)) (ltB_asy p (levF p)) h.1 hx
def KdD (p : Pa) (ls : List Int) (D : List Nat) : Nat → List Nat := fun q => if q ∈ D then parL p ls (ls.getD q 0) else []
def WdD (p : Pa) (ls : List Int) (D : List Nat) : Nat → Nat := fun q => if q ∈ D then rnkL p ls (ls.getD q 0) else 0
theorem KdD_all {p : Pa} {ls : List Int} {D : List Nat} (h : ∀ q, q < ls.length → q ∈ D) : ((List.range ls.length).map fun q => rowCells (ofN (KdD p ls D q))) = (powP p ls).map rowCells := by
  apply List.ext_getElem?
  intro i
  by_cases hi : i < ls.length
  · obtain ⟨x, hx⟩ := gete hi
    rw [get_range _ hi, List.getElem?_map, powP, List.getElem?_map, hx, KdD, if_pos (h i hi), getD_some hx]; rfl
  · rw [List.getElem?_eq_none (by simpa using hi), List.getElem?_eq_none (by simp [powP]; omega)]
theorem WdD_all {p : Pa} {ls : List Int} {D : List Nat} (h : ∀ q, q < ls.length → q ∈ D) : ((List.range ls.length).map fun q => intCells (WdD p ls D q : Nat)) = (powR p ls).map intCells := by
  apply List.ext_getElem?
  intro i
  by_cases hi : i < ls.length
  · obtain ⟨x, hx⟩ := gete hi
    rw [get_range _ hi, List.getElem?_map, powR, List.getElem?_map, hx, WdD, if_pos (h i hi), getD_some hx]; rfl
  · rw [List.getElem?_eq_none (by simpa using hi), List.getElem?_eq_none (by simp [powR]; omega)]
theorem WdD_add {p : Pa} {ls : List Int} {D : List Nat} {m : Nat} : (fun q => if q = m then rnkL p ls (ls.getD m 0) else WdD p ls D q) = WdD p ls (D ++ [m]) := by
  funext q
  rw [WdD, WdD]
  by_cases e : q = m
  · subst e; simp
  · simp [e]
theorem KdD_start {p : Pa} {ls : List Int} {D : List Nat} {m : Nat} (h : m ∉ D) : (fun q => if q = m then [] else KdD p ls D q) = KdD p ls D := by
  funext q
  by_cases e : q = m
  · subst e; rw [if_pos rfl, KdD, if_neg h]
  · rw [if_neg e]
theorem KdD_end {p : Pa} {ls : List Int} {D : List Nat} {m : Nat} : (fun q => if q = m then parL p ls (ls.getD m 0) else KdD p ls D q) = KdD p ls (D ++ [m]) := by
  funext q
  rw [KdD, KdD]
  by_cases e : q = m
  · subst e; simp
  · simp [e]
def parK (p : Pa) (ls : List Int) (x : Int) (k : Nat) : List Nat := (List.range k).filter fun k => decide (ls.getD k 0 ∈ chainL p.auth [x])
theorem parK_succ (p : Pa) (ls : List Int) (x : Int) (k : Nat) : parK p ls x (k + 1) = parK p ls x k ++ (if ls.getD k 0 ∈ chainL p.auth [x] then [k] else []) := by
  rw [parK, List.range_succ, List.filter_append, parK, List.filter_cons, List.filter_nil]
  by_cases e : ls.getD k 0 ∈ chainL p.auth [x]
  · rw [if_pos e, if_pos (decide_eq_true e)]
  · rw [if_neg e, if_neg (by rw [decide_eq_false e]; decide)]
theorem parK_len (p : Pa) (ls : List Int) (x : Int) (k : Nat) : (parK p ls x k).length ≤ k := by
  rw [parK]
  exact Nat.le_trans (List.length_filter_le _ _) (by rw [List.length_range]; omega)
theorem Gr.rowAt {e sz : Nat} {H L0 L : AHeap} {es : List (List AV)} {a : AV} (hE : Ext H L0) (h : Gr e sz L0 es a L) : RowAt e sz H L es a ∧ Ext H L := by
  rcases h with ⟨rfl, rfl, rfl⟩ | ⟨b, hb, rfl, rfl⟩
  · exact ⟨RowAt.nil _ _ _ _, hE⟩
  · exact ⟨.inr ⟨b, none_of_ext hE hb, rfl, AHeap.get_put_same _ _ _⟩, hE.put hb⟩
end Go.Proofs.YtcpfgjfiacfmoaaGreatDoor

set_option linter.unusedSimpArgs false
set_option linter.unusedVariables false
set_option maxRecDepth 100000
namespace Go.Proofs.YtcpfgjfiacfmoaaGreatDoor
open Go Go.AL
attribute [local irreducible] AOps AWp SOps AE AT ACall AApp

set_option maxHeartbeats 4000000 in
theorem sortedP_c (p : Pa) (hr : p.Right) (mb : Nat) (ents : Array MapEntry) (clock : Nat) (F : Int → Int) (ls : List Int) (hl : ls.length ≤ 1000) (hnd : ls.Nodup) (hpo : ∀ x ∈ ls, 0 ≤ x ∧ x < p.events.length) (cb : Nat) (t : Bool) (H : AHeap) (hcb : H.get cb = some (.box 38 [.sl t (ls.map intCells)])) (hm : H.get mb = some (kmOf ents clock (mkN F ls))) (Kc : AV → AHeap → Prop)
    (h : ∀ s a L, Ordered p F ls s → Ext H L → RowAt 3 1 H L (s.map intCells) a → Kc a L) : ACall X 44 [.fn (.func 79) [] [ptrTo cb], .fn (.func 46) [] [.fp [.v (.map (some mb))], .fp (pCells p)]] H Kc := by
  refine ACall_intro Tryz.func44 rfl (by kernel_rfl) (by rw [Tryz.ntmps44]; simp) ?_; rw [Tryz.ntmps44]; simp only [frame0, Nat.reduceAdd]
  (apply sR; intro K hK; refine qr ?_; refine s_nil (hK _ _ ?_); clear hK K; apply sR; intro K hK; refine qr ?_; apply s_call; decide; (iterate 2 (simp only [go_sem]; rfl)); apply collect_c cb t ls (by omega) H hcb; intro a1 L1 hE hR; refine qr ?_; refine s_nil (hK _ _ ?_); clear hK K; apply sR; intro K hK; (iterate 2 (refine qr ?_)))
  apply s_call; decide; exact (by simp only [go_sem]; try rfl); exact (by simp only [go_sem]; try rfl)
  refine ACall_sortAtM (Hc := AHeap.nil.put mb (kmOf ents clock (mkN F ls))) (k := 1) (mkA := fun bs => bs.headD .top) (c := fun i j => ordI p F (ls.getD i 0).toNat (ls.getD j 0).toNat) sorts62 (by kernel_rfl) (by kernel_rfl) mk_one hE hR (by rw [List.length_map]; omega) (fun x hx => ?_) (ord_swo p F ls _) (fun d o hd => ?_) (fun i j x y hx hy K2 hK2 => ?_) (fun pm L5 hp1 hp2 hp3 hp4 hp5 => ?_)
  · obtain ⟨d, _, rfl⟩ := List.mem_map.1 hx; rfl
  · rw [AHeap.get_put] at hd
    split at hd
    · rename_i e; subst e; cases hd
      exact ⟨(fun _ h => by cases h), hE _ _ hm, _, _, _, _, rfl⟩
    · cases hd
  · obtain ⟨a1, ha⟩ := gete (l := ls) (i := i) (by have := (List.getElem?_eq_some_iff.1 hx).1; simpa using this)
    obtain ⟨b1, hb⟩ := gete (l := ls) (i := j) (by have := (List.getElem?_eq_some_iff.1 hy).1; simpa using this)
    rw [int_at ha] at hx
    rw [int_at hb] at hy
    cases hx; cases hy
    have ha2 := hpo a1 (List.mem_of_getElem? ha)
    have hb2 := hpo b1 (List.mem_of_getElem? hb)
    have fa := mkN_find F a1 ls
    have fb := mkN_find F b1 ls
    rw [if_pos (List.mem_of_getElem? ha)] at fa
    rw [if_pos (List.mem_of_getElem? hb)] at fb
    rw [getD_some ha, getD_some hb] at hK2
    obtain ⟨an, rfl⟩ : ∃ n : Nat, a1 = n := ⟨a1.toNat, by omega⟩
    obtain ⟨bn, rfl⟩ : ∃ n : Nat, b1 = n := ⟨b1.toNat, by omega⟩
    exact cmpP_c p hr mb ents clock (mkN F ls) an bn (by omega) (by omega) (F an) (F bn) fa fb _ (AHeap.get_put_same _ _ _) K2 hK2
  · rw [List.length_map] at hp1
    rw [perm_cellsI hp1] at hp3
    have hord := ordered_of (p := p) (ff := F) hnd (fun x hx => (hpo x hx).1) hp1 hp2
    (refine s_nil (hK _ _ ?_); clear hK K; apply sR; intro K hK; (iterate 2 (refine qr ?_)); refine s_nil (hK _ _ ?_); clear hK K; apply AWp_ret)
    exact h _ _ _ hord hp4 hp3
set_option maxHeartbeats 8000000 in
theorem byPower_c (p : Pa) (hw : p.Wide) (hsm : ∀ e ∈ p.events, Sml e.content) (hn : p.events.length ≤ 1000) (t : Bool) (l : List Int) (hl : l.length ≤ 1000) (H : AHeap) (Kc : AV → AHeap → Prop) (h : Kc (.sl false ((powA p l).map intCells)) H) : ACall X 19 [.agg p.cells, .sl t (l.map intCells)] H Kc := by
  refine ACall.gr (e := 3) (sz := 1) h ?_
  clear h
  have hR : ∀ (H : AHeap) (K : AV → AHeap → Prop), K (.v (.bool (rightB p))) H → ACall X 25 [.agg (pCells p)] H K := fun H K hK => right_c p hw H K hK
  have hT : ∀ (H : AHeap) (K : AV → AHeap → Prop), K (.sl false ((setL p.events.length l).map intCells)) H → ACall X 43 [.agg (pCells p), .sl t (l.map intCells)] H K := fun H K hK => those_c p hw t l hl H K hK
  rw [Pa.cells]
  refine ACall_intro Tryz.func19 rfl (by kernel_rfl) (by rw [Tryz.ntmps19]; simp) ?_; rw [Tryz.ntmps19]; simp only [frame0, Nat.reduceAdd]
  apply sR; intro K hK
  apply s_box; decide; exact (by simp only [go_sem]; try rfl); exact (by simp only [go_sem]; try rfl); intro q hq
  generalize hgenq : AHeap.put q _ H = M; obtain ⟨g1, hextq⟩ := gen_ex hgenq hq; have hE := hextq; clear hextq hgenq
  have hHq : H.get q = none := hq
  (apply s_q; decide; rfl; (simp only [go_sem, g1]; rfl); refine s_nil (hK _ _ ?_); clear hK K; apply sK; intro K hK; apply sR; intro K hK; apply s_q; decide; rfl; (simp only [go_sem, g1]; rfl); apply s_call; decide; (iterate 2 (simp only [go_sem, g1]; rfl)); apply hR; apply s_q; decide; rfl; (simp only [go_sem, g1]; rfl); refine s_nil (hK _ _ ?_); clear hK K)
  refine cs (fun hc => ?_) (fun hc => ?_)
  · have hc : rightB p = false := by simpa using hc
    (apply sR; intro K hK; refine qr ?_; refine s_nil (hK _ _ ?_); clear hK K; apply AWp_ret; simp only [AThen, ABlock]; apply end_ret; rfl; simp only [AFr.get, reduceIte, Nat.reduceEqDiff])
    rw [powA, if_neg (by rw [hc]; decide)]
    exact ⟨M, hE, .inl ⟨rfl, rfl, rfl⟩⟩
  have hc : rightB p = true := by simpa using hc
  have hr := right_true hc
  have hA : powA p l = powO p (setL p.events.length l) := by rw [powA, if_pos hc]
  have hln := setL_len p.events.length l
  have hnd := setL_nd p.events.length l
  have hlt := setL_lt p.events.length l
  have hpo := setL_pos (n := p.events.length) (l := l)
  generalize setL p.events.length l = ls at hT hln hnd hpo hlt hA
  have hLv : ∀ (i : Int), i ∈ ls → ∀ (H : AHeap) (K : AV → AHeap → Prop), K (.v (.int .i64 (levF p i))) H → ACall X 38 [.agg (pCells p), .v (.int .i64 i)] H K := fun i hi H K hK => by
    obtain ⟨m, rfl⟩ : ∃ m : Nat, i = m := ⟨i.toNat, by have := hpo i hi; omega⟩
    exact lev_c p hw hr hsm m (by have := hpo _ hi; omega) H K hK
  refine AWp_skip (hK _ _ ?_); clear hK K
  apply sR; intro K hK
  ((iterate 2 (apply s_q; decide; rfl; (simp only [go_sem, g1]; rfl))); apply s_call; decide; (iterate 2 (simp only [go_sem, g1]; rfl)); apply hT; apply s_q; decide; rfl; (simp only [go_sem, g1]; rfl))
  refine s_nil (hK _ _ ?_); clear hK K
  apply sR; intro K hK
  apply s_imap; decide; exact mp_64; intro mb hmb
  generalize hgenq : AHeap.put mb _ M = M1; obtain ⟨gm, hextq⟩ := gen_ex hgenq hmb; have g1 := hextq _ _ g1; have hE := Ext.trans hE hextq; clear hextq hgenq
  have hHm : H.get mb = none := none_of_ext (by assumption) hmb
  apply s_alloc; decide; exact zc_64; intro tb htb
  (apply s_store; (iterate 3 (simp only [go_sem]; rfl)))
  refine s_nil (hK _ _ ?_); clear hK K
  generalize hgenq : AHeap.put tb _ M1 = M2; obtain ⟨gt, hextq⟩ := gen_ex hgenq htb; have g1 := hextq _ _ g1; have gm := hextq _ _ gm; have hE := Ext.trans hE hextq; clear hextq hgenq
  have hHt : H.get tb = none := none_of_ext (by assumption) htb
  (apply sK; intro K hK; apply sR; intro K hK; (iterate 3 (refine qr ?_)); refine s_nil (hK _ _ ?_); clear hK K; apply AWp_block)
  refine AWp_loop_s (σ := Nat × AHeap) [2, 5, 6, 30, 31, 32] (fun s => [ptrTo q, .sl false (ls.map intCells), ptrTo tb, .sl false (ls.map intCells), .v (.int .i64 (ls.length : Nat)), .v (.int .i64 (s.1 : Int))]) (fun s => s.2) (fun s => ls.length - s.1)
    (fun s => s.1 ≤ ls.length ∧ s.2.get q = some (.box 35 (pCells p)) ∧ s.2.get tb = some (.box 64 [.v (.map (some mb))]) ∧ s.2.get mb = some (.imap .i64 (mkN (levF p) (ls.take s.1))) ∧ Ext H s.2)
    (0, M2) ⟨Nat.zero_le _, g1, gt, gm, hE⟩ rfl rfl (fun s hs => ?_)
  obtain ⟨i, L⟩ := s
  obtain ⟨hi, hqL, htL, hmL, hEL⟩ := hs
  clear g1 gt gm hE
  simp only [List.zip_cons_cons, List.zip_nil_right] at hi hqL htL hmL hEL ⊢
  (apply sR; intro K hK; refine qr ?_; refine s_nil (hK _ _ ?_); clear hK K; apply sK; intro K hK)
  refine cs (fun hd => ?_) (fun hd => ?_)
  · have hil : i < ls.length := by simpa using hd
    obtain ⟨x, hx⟩ := gete hil
    have hgx := int_at hx
    have hLx := hLv x (List.mem_of_getElem? hx)
    have hmt : mb ≠ tb := by rintro rfl; rw [hmL] at htL; cases htL
    have hmq : mb ≠ q := by rintro rfl; rw [hmL] at hqL; cases hqL
    (refine AWp_skip (hK _ _ ?_); clear hK K; apply sK; intro K hK; apply AWp_block; apply sR; intro K hK; (iterate 3 (apply s_q; decide; rfl; (simp only [go_sem, hgx]; rfl))); refine s_nil (hK _ _ ?_); clear hK K)
    apply AWp_drawA [0, 1, 2, 3, 4] [5] 0 (by exact mixed); kernel_rfl; (iterate 2 (simp only [go_sem]; rfl))
    ((iterate 4 (apply e_q; decide; (simp only [go_sem, hqL, htL, hmL]; rfl))); apply e_call; decide; (iterate 2 (simp only [go_sem, hqL, htL, hmL]; rfl)); (apply hLx; exact ⟨rfl, rfl⟩); apply e_nil; apply t_mapput; rfl; (iterate 4 (simp only [go_sem, hqL, htL, hmL]; rfl)); refine t_nil (hK _ _ ?_); clear hK K; apply s_region; (iterate 2 (apply s_q; decide; rfl; (simp only [go_sem, hqL, htL, hmL]; rfl))); apply s_nil; simp only [AThen, ABlock])
    have k1 := get_other (x := .imap .i64 (kput x (.v (.int .i64 (levF p x))) (mkN (levF p) (ls.take i)))) hqL (Ne.symm hmq)
    have k2 := get_other (x := .imap .i64 (kput x (.v (.int .i64 (levF p x))) (mkN (levF p) (ls.take i)))) htL (Ne.symm hmt)
    have k3 := hEL.over (o := .imap .i64 (kput x (.v (.int .i64 (levF p x))) (mkN (levF p) (ls.take i)))) hHm
    refine ⟨(i + 1, L.put mb (.imap .i64 (kput x (.v (.int .i64 (levF p x))) (mkN (levF p) (ls.take i))))), by simp only; omega, ⟨by simp only; omega, k1, k2, ?_, k3⟩, ?_, by rfl⟩
    · simp only
      rw [AHeap.get_put_same, take_succ hx]
      exact congrArg (fun e => some (AObj.imap .i64 e)) (mkN_put (ff := levF p) (fresh_at hnd hx))
    · simp only [getAll, List.map, AFr.get, reduceIte, Nat.reduceEqDiff]
      rw [wrapS hil (by omega)]; try rfl
  have hge : ls.length ≤ i := by simpa using hd
  rw [List.take_of_length_le hge] at hmL
  apply AWp_exit; simp only [AThen, ABlock, reduceIte, Nat.reduceEqDiff]; clear hK K; refine hK _ _ ?_; clear hK K
  refine AWp_cut [2, 5, 6] (vs := [ptrTo q, .sl false (ls.map intCells), ptrTo tb]) rfl ?_
  simp only [List.zip_cons_cons, List.zip_nil_right]
  refine AWp.hold hmL (fun ents clock => ?_)
  have hmt : mb ≠ tb := by rintro rfl; rw [hmL] at htL; cases htL
  have hmq : mb ≠ q := by rintro rfl; rw [hmL] at hqL; cases hqL
  have htq : tb ≠ q := by rintro rfl; rw [htL] at hqL; cases hqL
  have k1 := get_other (x := kmOf ents clock (mkN (levF p) ls)) hqL (Ne.symm hmq)
  have k2 := get_other (x := kmOf ents clock (mkN (levF p) ls)) htL (Ne.symm hmt)
  have k3 := AHeap.get_put_same mb (kmOf ents clock (mkN (levF p) ls)) L
  have k4 := hEL.over (o := kmOf ents clock (mkN (levF p) ls)) hHm
  clear hqL htL hmL hEL
  obtain ⟨L1, hL1⟩ : ∃ L1, L.put mb (kmOf ents clock (mkN (levF p) ls)) = L1 := ⟨_, rfl⟩
  rw [hL1] at k1 k2 k3 k4
  rw [show AHeap.put mb (.kmap ents clock ((mkN (levF p) ls).map fun p => .v (.int .i64 p.1)) ((mkN (levF p) ls).map (·.2))) L = L1 from hL1]
  refine AWp.freeze (t := 6) k2 rfl (by decide) ?_
  have m1 : (L1.del tb).get q = some (.box 35 (pCells p)) := by rw [AHeap.get_del, if_neg (Ne.symm htq)]; exact k1
  refine AWp.freeze (t := 2) m1 rfl (by decide) ?_
  have n3 : ((L1.del tb).del q).get mb = some (kmOf ents clock (mkN (levF p) ls)) := by rw [AHeap.get_del, if_neg hmq, AHeap.get_del, if_neg hmt]; exact k3
  have n4 : Ext H ((L1.del tb).del q) := (k4.del hHt).del hHq
  generalize (L1.del tb).del q = L2 at n3 n4 ⊢
  clear k1 k2 k3 k4 m1
  apply sR; intro K hK
  (refine qr ?_; apply s_call; decide; (iterate 2 (simp only [go_sem]; rfl)); apply values_c false ls; intro cb hcb; refine qr ?_)
  have gcb := AHeap.get_put_same cb (.box 38 [.sl false (ls.map intCells)]) L2
  have n3' := get_fresh n3 hcb (x := .box 38 [.sl false (ls.map intCells)])
  have n4' := n4.put hcb (ob := .box 38 [.sl false (ls.map intCells)])
  generalize AHeap.put cb (.box 38 [.sl false (ls.map intCells)]) L2 = L3 at gcb n3' n4' ⊢
  (apply s_call; decide; (iterate 2 (simp only [go_sem]; rfl)); apply sortedP_c p hr mb ents clock (levF p) ls (by omega) hnd hpo cb false _ gcb n3'; intro sr a9 L4 hord hE4 hR4; refine qr ?_)
  refine s_nil (hK _ _ ?_); clear hK K
  obtain ⟨L5, hE5, hG5⟩ := hR4.toGr hE4
  have hEH := n4'.trans hE5
  refine AWp_cut [9, 2, 5] (vs := [a9, .fp (pCells p), .sl false (ls.map intCells)]) rfl ?_
  simp only [List.zip_cons_cons, List.zip_nil_right]
  have hpc : ∀ (b sz : Nat) (es : List (List AV)), AV.snaps b sz es (pCells p) = pCells p := fun b sz es => Pa.snap b sz es p
  refine AWp_gr2 hG5 (fun b hb => by simp only [AFr.snap, AV.snap, snap_ints, hpc]) ?_
  clear hG5 hR4 hE4 hE5 gcb n3' n4' n3 n4
  obtain ⟨n, hnn⟩ : ∃ n, ls.length = n := ⟨_, rfl⟩
  have hsrl : sr.length = n := by rw [hord.2.length_eq, hnn]
  have hsrn : sr.Nodup := hord.2.nodup_iff.2 hnd
  apply sK; intro K hK
  have hcont : ∀ (bk bw : Nat) (L2 : AHeap) (fr' : AFr), Rk.Kids L5 L2 n bk bw (fun _ => .sl true []) (fun _ => []) (fun _ => 0) → getAll [10, 11, 9, 5, 2] fr' = [.row bk 1 n, .row bw 1 n, .sl false (sr.map intCells), .sl false (ls.map intCells), .fp (pCells p)] → K fr' L2 := fun bk bw L2 fr' hKd hfr => by
    refine hK _ _ (AWp_cut [10, 11, 9, 5, 2] hfr ?_); clear hK hfr K
    simp only [List.zip_cons_cons, List.zip_nil_right]
    have hRe : ∀ (x : Int) (H : AHeap) (K : AV → AHeap → Prop), (∀ m L S, Ext H L → H.get m = none → L.get m = some (.imap .i64 (mkT S)) → S.Nodup → (∀ k, k ∈ S ↔ Reach p.auth [x] k) → K (.v (.map (some m))) L) → ACall X 51 [.agg (pCells p), .sl true [[.v (.int .i64 x)]]] H K := fun x H K hK => reach_c p hw hr (by have := hr.au; omega) true [x] (by simp) H K hK
    have hB := below_of hr
    (apply sK; intro K hK; apply sR; intro K hK; (iterate 3 (refine qr ?_)); refine s_nil (hK _ _ ?_); clear hK K; apply AWp_block)
    refine AWp_loop_s (σ := Nat × List Nat × (Nat → AV) × AHeap) [2, 5, 10, 11, 52, 53, 54] (fun s => [.fp (pCells p), .sl false (ls.map intCells), .row bk 1 n, .row bw 1 n, .sl false (sr.map intCells), .v (.int .i64 (sr.length : Nat)), .v (.int .i64 (s.1 : Int))]) (fun s => s.2.2.2) (fun s => sr.length - s.1)
      (fun s => s.1 ≤ sr.length ∧ Rk.Kids L5 s.2.2.2 n bk bw s.2.2.1 (KdD p ls s.2.1) (WdD p ls s.2.1) ∧ (∀ q ∈ s.2.1, q < n ∧ ls.getD q 0 ∈ sr.take s.1) ∧ (∀ q, q < n → ls.getD q 0 ∈ sr.take s.1 → q ∈ s.2.1))
      (0, [], fun _ => .sl true [], L2) ⟨Nat.zero_le _, hKd, (fun q hq => by cases hq), (fun q _ hq => by simp at hq)⟩ rfl rfl (fun s hs => ?_)
    obtain ⟨j, D, ks, L⟩ := s
    obtain ⟨hj, hKd, hD1, hD2⟩ := hs
    simp only [List.zip_cons_cons, List.zip_nil_right] at hj hKd hD1 hD2 ⊢
    (apply sR; intro K hK; refine qr ?_; refine s_nil (hK _ _ ?_); clear hK K; apply sK; intro K hK)
    refine cs (fun hd => ?_) (fun hd => ?_)
    · have hjl : j < sr.length := by simpa using hd
      obtain ⟨x, hx⟩ := gete hjl
      have hgx := int_at hx
      have hxl : x ∈ ls := hord.2.mem_iff.1 (List.mem_of_getElem? hx)
      obtain ⟨m, hml, hme⟩ := List.mem_iff_getElem.1 hxl
      have hm : ls[m]? = some x := by rw [← hme]; exact List.getElem?_eq_getElem hml
      have hmn : m < n := by omega
      have hmD : m ∉ D := fun h => by
        have := (hD1 m h).2
        rw [getD_some hm] at this
        exact fresh_at hsrn hx this
      have hb1 : ∀ j x', j < m → ls[j]? = some x' → x' < x := fun j x' hj' hx' => by
        obtain ⟨h1, h2⟩ := List.getElem?_eq_some_iff.1 hx'
        have := List.pairwise_iff_getElem.1 hlt j m h1 hml hj'
        rw [h2, hme] at this; exact this
      have hb3 : ∀ j x', m ≤ j → ls[j]? = some x' → x ≤ x' := fun j x' hj' hx' => by
        obtain ⟨h1, h2⟩ := List.getElem?_eq_some_iff.1 hx'
        rcases Nat.lt_or_ge m j with h3 | h3
        · have := List.pairwise_iff_getElem.1 hlt m j hml h1 h3
          rw [h2, hme] at this; omega
        · have : j = m := by omega
          subst this
          rw [hme] at h2; omega
      have hw2 := hKd.w
      have hltm : ((m : Int) < (n : Int)) = True := by simp; omega
      have hgw : ((List.range n).map fun j => intCells (WdD p ls D j : Nat))[m]? = some [.v (.int .i64 (WdD p ls D m : Nat))] := get_range _ hmn
      (refine AWp_skip (hK _ _ ?_); clear hK K; apply sK; intro K hK; apply AWp_block; apply sR; intro K hK; (iterate 5 (apply s_q; decide; rfl; (simp only [go_sem, hgx, hw2, hltm, hgw]; rfl))); refine s_nil (hK _ _ ?_); clear hK K; apply sR; intro K hK; (iterate 2 (apply s_q; decide; rfl; (simp only [go_sem, hgx, hw2, hltm, hgw]; rfl))); apply s_call; decide; (iterate 2 (simp only [go_sem, hgx, hw2, hltm, hgw]; rfl)); refine bsearch_c false ls x m (by omega) hb1 hm hb3 _ _ (fun fb => ?_); (iterate 5 (apply s_q; decide; rfl; (simp only [go_sem, hgx, hw2, hltm, hgw]; rfl))); refine s_nil (hK _ _ ?_); clear hK K; apply sR; intro K hK; (iterate 4 (apply s_q; decide; rfl; (simp only [go_sem, hgx, hw2, hltm, hgw]; rfl))); apply s_store; (iterate 3 (simp only [go_sem, hgx, hw2, hltm, hgw]; rfl)); refine s_nil (hK _ _ ?_); clear hK K; apply sR; intro K hK; (iterate 2 (apply s_q; decide; rfl; (simp only [go_sem, hgx, hw2, hltm, hgw]; rfl))); apply s_lit; decide; exact el_38; (iterate 2 (simp only [go_sem, hgx, hw2, hltm, hgw]; rfl)); decide)
      have c1 := hKd.wset m j
      have hrk : rnkL p ls (ls.getD m 0) = j := by rw [getD_some hm]; exact rnk_pos hord hx
      have hWe := WdD_add (p := p) (ls := ls) (D := D) (m := m)
      rw [hrk] at hWe
      rw [hWe] at c1
      have hL7 : L.put bw (.row 2 1 false (((List.range n).map fun j => intCells (WdD p ls D j : Nat)).set m [.v (.int .i64 (j : Int))])) = L.put bw (.row 2 1 false (((List.range n).map fun j => intCells (WdD p ls D j : Nat)).set m (intCells (j : Nat)))) := rfl
      rw [hL7]
      clear hL7 hKd hw2
      generalize L.put bw (.row 2 1 false (((List.range n).map fun j => intCells (WdD p ls D j : Nat)).set m (intCells (j : Nat)))) = L7 at c1 ⊢
      (apply s_call; decide; (iterate 2 (simp only [go_sem]; rfl)); apply hRe; intro mm L8 S hE8 hm8 hm88 hnd8 hmem8; refine qr ?_; refine s_nil (hK _ _ ?_); clear hK K; apply sR; intro K hK; (iterate 3 (refine qr ?_)); refine s_nil (hK _ _ ?_); clear hK K; apply AWp_block)
      have c2 := c1.more hE8
      clear c1
      have hK0 := KdD_start (p := p) (ls := ls) hmD
      rw [hnn]
      refine AWp_loop_s (σ := Nat × (Nat → AV) × (Nat → List Nat) × AHeap) [2, 5, 10, 11, 14, 16, 52, 53, 54, 73, 74, 75] (fun s => [.fp (pCells p), .sl false (ls.map intCells), .row bk 1 n, .row bw 1 n, .v (.int .i64 (m : Int)), .v (.map (some mm)), .sl false (sr.map intCells), .v (.int .i64 (sr.length : Nat)), .v (.int .i64 (j : Int)), .sl false (ls.map intCells), .v (.int .i64 (n : Nat)), .v (.int .i64 (s.1 : Int))]) (fun s => s.2.2.2) (fun s => n - s.1)
        (fun s => s.1 ≤ n ∧ Rk.Kids L5 s.2.2.2 n bk bw s.2.1 s.2.2.1 (WdD p ls (D ++ [m])) ∧ s.2.2.1 = (fun q => if q = m then parK p ls x s.1 else KdD p ls D q) ∧ s.2.2.2.get mm = some (.imap .i64 (mkT S)))
        (0, ks, KdD p ls D, L8) ⟨Nat.zero_le _, c2, hK0.symm, hm88⟩ rfl rfl (fun s hs => ?_)
      obtain ⟨k, ks2, Kf, L9⟩ := s
      obtain ⟨hk, hKd, hKf, hm9⟩ := hs
      clear c2 hm88
      simp only [List.zip_cons_cons, List.zip_nil_right] at hk hKd hKf hm9 ⊢
      (apply sR; intro K hK; refine qr ?_; refine s_nil (hK _ _ ?_); clear hK K; apply sK; intro K hK)
      refine cs (fun he => ?_) (fun he => ?_)
      · have hkn : k < n := by simpa using he
        obtain ⟨y, hy⟩ := gete (l := ls) (i := k) (by omega)
        have hgy := int_at hy
        have hfd := mkT_find y S
        have hKm : Kf m = parK p ls x k := by rw [hKf]; simp
        have hpk := parK_succ p ls x k
        rw [getD_some hy] at hpk
        have hpl := parK_len p ls x k
        by_cases hyS : y ∈ S
        · rw [if_pos hyS] at hfd
          rw [if_pos ((chain_mem hB).2 ((hmem8 y).1 hyS))] at hpk
          (refine AWp_skip (hK _ _ ?_); clear hK K; apply sK; intro K hK; apply AWp_block; apply sR; intro K hK; (iterate 5 (apply s_q; decide; rfl; (simp only [go_sem, hgy, hm9, hfd]; rfl))); refine s_nil (hK _ _ ?_); clear hK K; apply sR; intro K hK; (iterate 3 (apply s_q; decide; rfl; (simp only [go_sem, hgy, hm9, hfd]; rfl))); refine s_nil (hK _ _ ?_); clear hK K)
          refine cs (fun hz => ?_) (fun hz => ?_)
          rotate_left
          · cases hz
          have a4 := hKd.k
          have hgk := get_range (fun p => [ks2 p]) hmn
          have hkl : (Kf m).length ≤ 1000 := by rw [hKm]; omega
          (apply s_region; (iterate 7 (apply s_q; decide; rfl; (simp only [go_sem, a4, hgk, hltm]; rfl))); apply s_lit; decide; exact el_38; (iterate 2 (simp only [go_sem, a4, hgk, hltm]; rfl)); decide)
          apply s_append; decide; exact (by simp only [go_sem]; try rfl); exact (by simp only [go_sem]; try rfl); apply AApp_push el_38 (hKd.held m hmn) (cellsN_one _) (nes := [[.v (.int .i64 (k : Int))]]) (fun M => src_sl tk_38 (fun e he => by simp at he; subst he; exact ⟨rfl, rfl⟩)) (by simp) (by rw [cellsN_len]; simp; omega) (by rw [cellsN_len]; simp; omega); intro nb L10 k1 k2
          rw [cellsN_app] at k1 ⊢
          obtain ⟨b1, b2⟩ := hKd.kset hmn k1 k2
          have b3 := b2 mm _ hm9 (by intro _ _ _ _ h; cases h)
          have b5 : L10.get bk = some (.row 38 1 false ((List.range n).map fun p => [ks2 p])) := (k2 bk _ a4 (fun b e => by rintro rfl; rw [(hKd.at_ hmn e).1] at a4; cases a4)).1
          clear b2 k2 k1 a4
          (apply s_q; decide; rfl; (simp only [go_sem, b5, hgk, hltm]; rfl); apply s_store; (iterate 3 (simp only [go_sem, b5, hgk, hltm]; rfl)))
          refine s_nil (hK _ _ ?_); clear hK K
          (apply s_region; (iterate 2 (refine qr ?_)); apply s_nil; simp only [AThen, ABlock])
          refine ⟨(k + 1, fun p => if p = m then .row nb 1 (cellsN (Kf m ++ [k])).length else ks2 p, fun q => if q = m then Kf m ++ [k] else Kf q, _), by simp only; omega, ⟨by simp only; omega, b1, ?_, b3⟩, ?_, by rfl⟩
          · simp only
            rw [hpk, hKm, hKf]
            funext q
            by_cases e : q = m <;> simp [e]
          · simp only [getAll, List.map, AFr.get, reduceIte, Nat.reduceEqDiff]
            rw [wrapS hkn (by omega)]; try rfl
        · rw [if_neg hyS] at hfd
          rw [if_neg (fun h => hyS ((hmem8 y).2 ((chain_mem hB).1 h))), List.append_nil] at hpk
          (refine AWp_skip (hK _ _ ?_); clear hK K; apply sK; intro K hK; apply AWp_block; apply sR; intro K hK; (iterate 5 (apply s_q; decide; rfl; (simp only [go_sem, hgy, hm9, hfd]; rfl))); refine s_nil (hK _ _ ?_); clear hK K; apply sR; intro K hK; (iterate 3 (apply s_q; decide; rfl; (simp only [go_sem, hgy, hm9, hfd]; rfl))); refine s_nil (hK _ _ ?_); clear hK K)
          refine cs (fun hz => ?_) (fun hz => ?_)
          · cases hz
          (refine AWp_skip (hK _ _ ?_); clear hK K; apply s_region; (iterate 2 (refine qr ?_)); apply s_nil; simp only [AThen, ABlock])
          refine ⟨(k + 1, ks2, Kf, L9), by simp only; omega, ⟨by simp only; omega, hKd, by simp only; rw [hpk]; exact hKf, hm9⟩, ?_, by rfl⟩
          simp only [getAll, List.map, AFr.get, reduceIte, Nat.reduceEqDiff]
          rw [wrapS hkn (by omega)]; try rfl
      · have hge : n = k := by simp at he; omega
        subst hge
        have hend := KdD_end (p := p) (ls := ls) (D := D) (m := m)
        rw [getD_some hm, show parL p ls x = parK p ls x n by rw [parL, parK, hnn]] at hend
        rw [hKf, hend] at hKd
        (apply AWp_exit; simp only [AThen, ABlock, reduceIte, Nat.reduceEqDiff]; clear hK K; refine hK _ _ ?_; clear hK K; apply s_region; (iterate 2 (refine qr ?_)); apply s_nil; simp only [AThen, ABlock])
        refine ⟨(j + 1, D ++ [m], ks2, L9), by simp only; omega, ⟨by simp only; omega, hKd, fun q hq => ?_, fun q hq hq2 => ?_⟩, ?_, by rfl⟩
        · rw [take_succ hx]
          rcases List.mem_append.1 hq with hq | hq
          · exact ⟨(hD1 q hq).1, List.mem_append.2 (.inl (hD1 q hq).2)⟩
          · rw [List.mem_singleton] at hq
            subst hq
            exact ⟨hmn, by rw [getD_some hm]; simp⟩
        · rw [take_succ hx] at hq2
          rcases List.mem_append.1 hq2 with hq2 | hq2
          · exact List.mem_append.2 (.inl (hD2 q hq hq2))
          · rw [List.mem_singleton] at hq2
            have hql : q < ls.length := by omega
            rw [getD_some (List.getElem?_eq_getElem hql), ← hme] at hq2
            have := (List.getElem_inj hnd).1 hq2
            subst this
            simp
        · simp only [getAll, List.map, AFr.get, reduceIte, Nat.reduceEqDiff]
          rw [wrapS hjl (by omega)]; try rfl
    · have hge : sr.length ≤ j := by simpa using hd
      rw [List.take_of_length_le hge] at hD1 hD2
      have hDall : ∀ q, q < ls.length → q ∈ D := fun q hq => hD2 q (by omega) (by
        rw [getD_some (List.getElem?_eq_getElem hq)]
        exact hord.2.mem_iff.2 (List.getElem_mem hq))
      apply AWp_exit; simp only [AThen, ABlock, reduceIte, Nat.reduceEqDiff]; clear hK K; refine hK _ _ ?_; clear hK K
      refine AWp_cut [10, 11, 5] (vs := [.row bk 1 n, .row bw 1 n, .sl false (ls.map intCells)]) rfl ?_
      simp only [List.zip_cons_cons, List.zip_nil_right]
      refine Rk.frozen hKd (fun b sz es => by simp only [AFr.snap, AV.snap, snap_ints]) 10 11 ?_
      rw [← hnn, WdD_all hDall]
      (apply sR; intro K hK; (iterate 2 (refine qr ?_)))
      have hpl2 := powP_len p ls
      have hrl2 := powR_len p ls
      apply s_call; decide; exact (by simp only [go_sem]; try rfl); exact (by simp only [go_sem]; try rfl)
      refine ACall.loosen ?_
      refine ACall.args_eq (bs := [.sl false ((powP p ls).map rowCells), .sl false ((powR p ls).map intCells)]) ?_ ?_
      · rw [← KdD_all hDall]
        have hlo : ∀ l : List Nat, AV.loosenss (l.map fun q => [AV.sl (Rk.tight (ks q)) (cellsN (KdD p ls D q))]) = l.map fun q => rowCells (ofN (KdD p ls D q)) := fun l => by
          induction l with
          | nil => rfl
          | cons x l ih =>
            simp only [List.map_cons, AV.loosenss, AV.loosens, AV.loosen, ih]
            rw [cellsN, loosen_ints]; rfl
        simp only [AV.loosens, AV.loosen, loosen_ints, hlo]
      refine ACall.mono (linear_g false (powP p ls) (powR p ls) (by omega) (fun r hr' => by have := powP_row r hr'; omega) (by omega) _ _ rfl) (fun a L' hq => ?_)
      obtain ⟨L0', a1, rfl, hE', hG⟩ := hq
      obtain ⟨hR1, hE1⟩ := Gr.rowAt hE' hG
      have hR2 := RowAt.base hR1 hEH
      have hEx := hEH.trans hE1
      have hos := refL_in (P := powP p ls) (R := powR p ls)
      have hosl := refL_size (P := powP p ls) (R := powR p ls)
      rw [hpl2] at hos hosl
      generalize (if (refL (powP p ls) (powR p ls)).isSome = true then (0 : Int) else 1) = er
      obtain ⟨os, hosE⟩ : ∃ os, (refL (powP p ls) (powR p ls)).getD [] = os := ⟨_, rfl⟩
      have hpo2 : powO p ls = os.map fun k => ls.getD k.toNat 0 := by rw [powO, hosE]
      rw [hosE] at hR2 hos hosl
      clear hR1 hG
      rcases hR2 with ⟨rfl, h0⟩ | ⟨b, hHb, rfl, gb⟩
      · have hos0 : os = [] := by simpa using h0
        subst hos0
        ((iterate 5 (refine qr ?_)); refine s_nil (hK _ _ ?_); clear hK K; apply sK; intro K hK; apply sR; intro K hK; (iterate 3 (refine qr ?_)); refine s_nil (hK _ _ ?_); clear hK K; apply AWp_block)
        refine AWp_loop_s (σ := Unit) [19, 102, 103] (fun _ => [.sl true [], .v (.int .i64 0), .v (.int .i64 0)]) (fun _ => L') (fun _ => 0) (fun _ => True) () trivial rfl rfl (fun s hs => ?_)
        simp only [List.zip_cons_cons, List.zip_nil_right]
        (apply sR; intro K hK; refine qr ?_; refine s_nil (hK _ _ ?_); clear hK K; apply sK; intro K hK)
        refine cs (fun hz => ?_) (fun hz => ?_)
        · cases hz
        (apply AWp_exit; simp only [AThen, ABlock, reduceIte, Nat.reduceEqDiff]; clear hK K; refine hK _ _ ?_; clear hK K; apply sR; intro K hK; (iterate 2 (refine qr ?_)); refine s_nil (hK _ _ ?_); clear hK K; apply AWp_ret)
        exact ⟨L', hEx, .inl ⟨rfl, by rw [hA, hpo2]; rfl, rfl⟩⟩
      · rw [List.length_map]
        ((iterate 5 (refine qr ?_)); refine s_nil (hK _ _ ?_); clear hK K; apply sK; intro K hK; apply sR; intro K hK; (iterate 3 (refine qr ?_)); refine s_nil (hK _ _ ?_); clear hK K; apply AWp_block)
        refine AWp_loop_s (σ := Nat) [5, 19, 101, 102, 103] (fun i => [.sl false (ls.map intCells), .row b 1 os.length, .row b 1 os.length, .v (.int .i64 (os.length : Nat)), .v (.int .i64 (i : Int))]) (fun i => L'.put b (.row 3 1 false (((os.take i).map (fun k => ls.getD k.toNat 0) ++ os.drop i).map intCells))) (fun i => os.length - i) (fun i => i ≤ os.length) 0 (Nat.zero_le _) rfl (by simp only [List.take_zero, List.map_nil, List.nil_append, List.drop_zero]; rw [put_same gb]) (fun i hi => ?_)
        simp only [List.zip_cons_cons, List.zip_nil_right]
        have hgb := AHeap.get_put_same b (.row 3 1 false (((os.take i).map (fun k => ls.getD k.toNat 0) ++ os.drop i).map intCells)) L'
        (apply sR; intro K hK; refine qr ?_; refine s_nil (hK _ _ ?_); clear hK K; apply sK; intro K hK)
        refine cs (fun hz => ?_) (fun hz => ?_)
        · have hil : i < os.length := by simpa using hz
          obtain ⟨k, hk⟩ := gete hil
          have hkin : 0 ≤ k ∧ k < ls.length := by simpa [inR] using hos k (List.mem_of_getElem? hk)
          obtain ⟨kn, rfl⟩ : ∃ m : Nat, k = m := ⟨k.toNat, by omega⟩
          obtain ⟨y, hy⟩ := gete (l := ls) (i := kn) (by omega)
          have hgy := int_at hy
          have hlti : ((i : Int) < (os.length : Int)) = True := by simp; omega
          have htl : ((os.take i).map fun k => ls.getD k.toNat 0).length = i := by simp; omega
          have hcur : ((os.take i).map (fun k => ls.getD k.toNat 0) ++ os.drop i)[i]? = some (kn : Int) := by
            rw [List.getElem?_append_right (by omega), htl, Nat.sub_self, List.getElem?_drop, Nat.add_zero]; exact hk
          have hgc := int_at hcur
          (refine AWp_skip (hK _ _ ?_); clear hK K; apply sK; intro K hK; apply AWp_block; apply sR; intro K hK; (iterate 5 (apply s_q; decide; rfl; (simp only [go_sem, hgb, hgc, hlti, hgy]; rfl))); refine s_nil (hK _ _ ?_); clear hK K; apply s_region; (iterate 7 (apply s_q; decide; rfl; (simp only [go_sem, hgb, hgc, hlti, hgy]; rfl))); apply s_store; (iterate 3 (simp only [go_sem, hgb, hgc, hlti, hgy]; rfl)); refine s_nil (hK _ _ ?_); clear hK K; apply s_region; (iterate 2 (apply s_q; decide; rfl; (simp only [go_sem, hgb, hgc, hlti, hgy]; rfl))); apply s_nil; simp only [AThen, ABlock])
          refine ⟨i + 1, by omega, hil, ?_, ?_⟩
          · simp only [getAll, List.map, AFr.get, reduceIte, Nat.reduceEqDiff]
            rw [wrapS hil (by omega)]; try rfl
          · have e0 : ((os.take i).map (fun k => ls.getD k.toNat 0) ++ os.drop i).set i y = (os.take (i + 1)).map (fun k => ls.getD k.toNat 0) ++ os.drop (i + 1) := by
              rw [List.set_append_right _ _ (by omega), htl, Nat.sub_self, take_succ hk, List.map_append, List.append_assoc]
              congr 1
              rw [List.drop_eq_getElem_cons hil, List.set_cons_zero]
              simp only [List.map_cons, List.map_nil, List.cons_append, List.nil_append, Int.toNat_natCast]
              rw [getD_some hy]
            have e1 : (((os.take i).map (fun k => ls.getD k.toNat 0) ++ os.drop i).map intCells).set i [.v (.int .i64 y)] = ((os.take (i + 1)).map (fun k => ls.getD k.toNat 0) ++ os.drop (i + 1)).map intCells := by
              rw [show [AV.v (.int .i64 y)] = intCells y from rfl, ← List.map_set, e0]
            rw [e1]
        · have hge : os.length = i := by simp at hz; omega
          subst hge
          rw [List.take_length, List.drop_length, List.append_nil] at hgb ⊢
          (apply AWp_exit; simp only [AThen, ABlock, reduceIte, Nat.reduceEqDiff]; clear hK K; refine hK _ _ ?_; clear hK K; apply sR; intro K hK; (iterate 2 (refine qr ?_)); refine s_nil (hK _ _ ?_); clear hK K; apply AWp_ret)
          have hfr2 : RowAt 3 1 H (L'.put b (.row 3 1 false ((os.map (fun k => ls.getD k.toNat 0)).map intCells))) ((os.map (fun k => ls.getD k.toNat 0)).map intCells) (.row b 1 os.length) := .inr ⟨b, hHb, by simp, hgb⟩
          obtain ⟨L6, h1, h2⟩ := hfr2.toGr (hEx.over hHb)
          exact ⟨L6, h1, by rw [hA, hpo2]; exact h2⟩
  have hks : ∀ (bk bw : Nat), L5.get bk = none → (L5.put bk (.row 38 1 false (List.replicate ((ls.length : Nat) : Int).toNat [.sl true []]))).get bw = none → Rk.Kids L5 ((L5.put bk (.row 38 1 false (List.replicate ((ls.length : Nat) : Int).toNat [.sl true []]))).put bw (.row 2 1 false (List.replicate ((ls.length : Nat) : Int).toNat [.v (.int .i64 0)]))) n bk bw (fun _ => .sl true []) (fun _ => []) (fun _ => 0) := fun bk bw h1 h2 => by
    rw [hnn] at h2 ⊢
    exact Rk.kids_start (Ext.refl _) h1 rfl h2
  apply AWp_drawT [0, 1, 3, 4] [2, 5, 6, 7] (.two 2 (.two 6 (.one 5 (.one 7 .leaf)) 5 (.one 6 (.one 7 .leaf))) 5 (.one 2 (.one 6 (.one 7 .leaf)))) 4 (by exact mixed); kernel_rfl; (simp only [go_sem]; rfl)
  ((iterate 4 (apply e_q; decide; (simp only [go_sem]; rfl))); apply e_nil)
  refine ⟨?_, ?_⟩
  · apply t_make; decide; exact el_32; exact (by simp only [go_sem]; try rfl); exact (by simp only [go_sem]; try rfl); exact zc_38; (refine ⟨by omega, by omega, by decide⟩); (intro _; exact Ext.refl _); intro bk hbk hx1; apply t_nil
    refine ⟨?_, ?_⟩
    · apply t_q; decide; exact (by simp only [go_sem]; try rfl); (intro _; exact hx1 (by decide)); apply t_nil
      apply t_make; decide; exact el_73; exact (by simp only [go_sem]; try rfl); exact (by simp only [go_sem]; try rfl); exact zc_2; (refine ⟨by omega, by omega, by decide⟩); (intro _; exact hx1 (by decide)); intro bw hbw hx2; apply t_nil
      apply t_q; decide; exact (by simp only [go_sem]; try rfl); (intro _; exact hx2 (by decide)); apply t_nil
      simp only [AU, AThen]
      exact hcont bk bw _ _ (hks bk bw hbk hbw) (by simp only [getAll, List.map_cons, List.map_nil, AFr.get, reduceIte, Nat.reduceEqDiff, hnn])
    · apply t_make; decide; exact el_73; exact (by simp only [go_sem]; try rfl); exact (by simp only [go_sem]; try rfl); exact zc_2; (refine ⟨by omega, by omega, by decide⟩); (intro _; exact hx1 (by decide)); intro bw hbw hx2; apply t_nil
      apply t_q; decide; exact (by simp only [go_sem]; try rfl); (intro _; exact hx2 (by decide)); apply t_nil
      apply t_q; decide; exact (by simp only [go_sem]; try rfl); (intro _; exact hx2 (by decide)); apply t_nil
      simp only [AU, AThen]
      exact hcont bk bw _ _ (hks bk bw hbk hbw) (by simp only [getAll, List.map_cons, List.map_nil, AFr.get, reduceIte, Nat.reduceEqDiff, hnn])
  · apply t_make; decide; exact el_73; exact (by simp only [go_sem]; try rfl); exact (by simp only [go_sem]; try rfl); exact zc_2; (refine ⟨by omega, by omega, by decide⟩); (intro _; exact Ext.refl _); intro bw hbw hx2; apply t_nil
    apply t_make; decide; exact el_32; exact (by simp only [go_sem]; try rfl); exact (by simp only [go_sem]; try rfl); exact zc_38; (refine ⟨by omega, by omega, by decide⟩); (intro _; exact hx2 (by decide)); intro bk hbk hx1; apply t_nil
    apply t_q; decide; exact (by simp only [go_sem]; try rfl); (intro _; exact hx1 (by decide)); apply t_nil
    apply t_q; decide; exact (by simp only [go_sem]; try rfl); (intro _; exact hx1 (by decide)); apply t_nil
    have hne : bk ≠ bw := by rintro rfl; rw [AHeap.get_put_same] at hbk; cases hbk
    have hbk2 : L5.get bk = none := none_fresh hbk
    have hbw2 : (L5.put bk (.row 38 1 false (List.replicate ((ls.length : Nat) : Int).toNat [.sl true []]))).get bw = none := by rw [AHeap.get_put, if_neg (Ne.symm hne)]; exact hbw
    rw [AHeap.put_comm hne]
    simp only [AU, AThen]
    exact hcont bk bw _ _ (hks bk bw hbk2 hbw2) (by simp only [getAll, List.map_cons, List.map_nil, AFr.get, reduceIte, Nat.reduceEqDiff, hnn])

def evS (t s : List UInt8) (c : J) : Ev := ⟨[], t, s, true, [], c, [], [], 0, 0, [], []⟩
def pS : Pa := ⟨[[99], [120], [121]], [evS tCreate [64, 97, 58, 115] (.mk 0 0 [] [] []), evS tPower [64, 98, 58, 115] (.mk 5 0 [] [] []), evS tPower [64, 97, 58, 115] (.mk 5 0 [] [] [])], [[], [], []], [[], [0], [0]], [false, false, false]⟩
theorem snap_ptr (b sz : Nat) (es : List (List AV)) (q : Nat) : AV.snap b sz es (ptrTo q) = ptrTo q := rfl
theorem sample_c (H : AHeap) (K : AV → AHeap → Prop) (h : K (.agg pS.cells) H) : ACall X 35 [] H K := by
  refine ACall.drop (ACall.loose ?_)
  refine ACall_intro Tryz.func35 rfl (by kernel_rfl) (by rw [Tryz.ntmps35]; simp) ?_; rw [Tryz.ntmps35]; simp only [frame0, Nat.reduceAdd]
  apply sR; intro K hK
  apply s_alloc; decide; exact zc_35; intro r hr
  refine s_nil (hK _ _ ?_); clear hK K
  generalize hgenq : AHeap.put r _ H = M; obtain ⟨g0, hextq⟩ := gen_ex hgenq hr; have hE := hextq; clear hextq hgenq
  (apply sR; intro K hK; refine qr ?_; apply s_alloc; decide; exact zc_25; intro b hb; apply s_store; (iterate 3 (simp only [go_sem]; rfl)); refine s_nil (hK _ _ ?_); clear hK K; apply sK; intro K hK)
  obtain ⟨q, hnewq⟩ : ∃ q, q = b := ⟨_, rfl⟩; have hq := hb; rw [← hnewq] at hq ⊢; clear hb hnewq; try clear he; clear b
  generalize hgenq : AHeap.put q _ M = M2; obtain ⟨g1, hextq⟩ := gen_ex hgenq hq; have g0 := hextq _ _ g0; have hE := Ext.trans hE hextq; clear hextq hgenq
  have hcont : ∀ (bk bw : Nat) (L : AHeap) (fr' : AFr), Ext M2 L → M2.get bk = none → M2.get bw = none → bk ≠ bw → L.get bk = some (.row 38 1 false [[.sl true []], [.sl true []], [.sl true []]]) → L.get bw = some (.row 4 1 false [[.v (.bool false)], [.v (.bool false)], [.v (.bool false)]]) → getAll [0] fr' = [ptrTo r] →
      K fr' (L.put r (.box 35 [.sl true (pS.names.map strCells), .sl true (pS.events.map fun e => [.s e.room, .s e.type, .s e.sender, .v (.bool e.isState), .s e.key, .v (.int .i64 e.content.kind), .v (.int .i64 e.content.int), .s e.content.text, .sl true [], .sl true [], .sl true [], .sl true [], .v (.int .i64 e.depth), .v (.int .i64 e.ts), .s e.hash, .sl true []]), .row bk 1 3, .sl true (pS.auth.map fun r => [.sl true (r.map intCells)]), .row bw 1 3])) := fun bk bw L fr' hEL hbk hbw hne gk gw hfr => by
    refine hK _ _ (AWp_cut [0] hfr ?_); clear hK hfr K
    simp only [List.zip_cons_cons, List.zip_nil_right]
    have hrk : r ≠ bk := by rintro rfl; rw [g0] at hbk; cases hbk
    have hrw : r ≠ bw := by rintro rfl; rw [g0] at hbw; cases hbw
    have hHk := none_of_ext hE hbk
    have hHw := none_of_ext hE hbw
    have hEr : Ext H L := Ext.trans hE hEL
    refine AWp.snapBox (get_other gk hrk.symm) (AHeap.get_put_same r _ L) ?_
    refine AWp.snapBox (b := bw) (p := r) (get_other (get_other (get_other gw hrw.symm) hne.symm) hrw.symm) (AHeap.get_put_same r _ _) ?_
    simp only [AFr.snap, AV.snap, AV.snaps, AV.snapss, pS, evS, List.map, strCells, intCells, J.kind, J.int, J.text, if_neg hne, if_neg hne.symm, if_true, Nat.le_refl, and_self, List.take, List.length, snap_ptr]
    generalize hL4 : AHeap.put bw _ _ = L4
    have hx4 : Ext H L4 := by rw [← hL4]; exact (((hEr.over hr).over hHk).over hr).over hHw
    clear hL4
    generalize hM5 : AHeap.put r _ L4 = M5
    have g5 : ∀ o, AHeap.put r o L4 = M5 → M5.get r = some o := fun o h => h ▸ AHeap.get_put_same r o L4
    have g5 := g5 _ hM5
    have hx5 : Ext H M5 := by rw [← hM5]; exact hx4.over hr
    clear hM5
    apply AWp_ret
    refine end_ret (av := .agg _) (by show resAV X.P _ _ [.cell 0 35] = _; simp only [go_sem, g5]; rfl) ⟨H, hx5, ?_⟩
    exact h

  apply AWp_drawT [0, 1, 2, 3, 4, 5, 6, 8, 9, 10] [7, 11, 12, 13] (.two 7 (.one 11 (.one 12 (.one 13 .leaf))) 11 (.one 7 (.one 12 (.one 13 .leaf)))) 3 (by exact mixed); kernel_rfl; (simp only [go_sem]; rfl)
  (apply e_lit; decide; exact el_22; (iterate 2 (simp only [go_sem, g1]; rfl)); decide; (iterate 5 (apply e_q; decide; (simp only [go_sem, g1]; rfl))); apply e_lit; decide; exact el_31; (iterate 2 (simp only [go_sem, g1]; rfl)); decide; (iterate 2 (apply e_lit; decide; exact el_38; (iterate 2 (simp only [go_sem, g1]; rfl)); decide)); apply e_lit; decide; exact el_32; (iterate 2 (simp only [go_sem, g1]; rfl)); decide; apply e_nil)
  refine ⟨?_, ?_⟩
  · apply t_make; decide; exact el_32; exact (by simp only [go_sem]; try rfl); exact (by simp only [go_sem]; try rfl); exact zc_38; (refine ⟨by omega, by omega, by decide⟩); (intro _; exact Ext.refl _); intro bk hbk hx1; apply t_nil
    apply t_make; decide; exact el_33; exact (by simp only [go_sem]; try rfl); exact (by simp only [go_sem]; try rfl); exact zc_4; (refine ⟨by omega, by omega, by decide⟩); (intro _; exact hx1 (by decide)); intro bw hbw hx2; apply t_nil
    apply t_q; decide; exact (by simp only [go_sem]; try rfl); (intro _; exact hx2 (by decide)); apply t_nil
    have hne : bk ≠ bw := by rintro rfl; rw [AHeap.get_put_same] at hbw; cases hbw
    have e3 : Int.toNat 3 = 3 := rfl
    simp only [e3] at hbk hbw hx1 hx2
    have gb := get_fresh (get_fresh g0 hbk (x := .row 38 1 false (List.replicate 3 [.sl true []]))) hbw (x := .row 4 1 false (List.replicate 3 [.v (.bool false)]))
    apply t_storex; exact (by simp only [go_sem]; try rfl); exact (by simp only [go_sem]; try rfl); exact (by simp only [go_sem, gb]; try rfl); (intro h; exact absurd h (by decide)); apply t_nil
    simp only [AU, AThen]
    exact hcont bk bw _ _ (hx2 (by decide)) hbk (none_fresh hbw) hne (get_fresh (AHeap.get_put_same bk _ _) hbw) (AHeap.get_put_same bw _ _) rfl
  · apply t_make; decide; exact el_33; exact (by simp only [go_sem]; try rfl); exact (by simp only [go_sem]; try rfl); exact zc_4; (refine ⟨by omega, by omega, by decide⟩); (intro _; exact Ext.refl _); intro bw hbw hx2; apply t_nil
    apply t_make; decide; exact el_32; exact (by simp only [go_sem]; try rfl); exact (by simp only [go_sem]; try rfl); exact zc_38; (refine ⟨by omega, by omega, by decide⟩); (intro _; exact hx2 (by decide)); intro bk hbk hx1; apply t_nil
    apply t_q; decide; exact (by simp only [go_sem]; try rfl); (intro _; exact hx1 (by decide)); apply t_nil
    have hne : bk ≠ bw := by rintro rfl; rw [AHeap.get_put_same] at hbk; cases hbk
    have e3 : Int.toNat 3 = 3 := rfl
    simp only [e3] at hbk hbw hx1 hx2
    have gb := get_fresh (get_fresh g0 hbw (x := .row 4 1 false (List.replicate 3 [.v (.bool false)]))) hbk (x := .row 38 1 false (List.replicate 3 [.sl true []]))
    apply t_storex; exact (by simp only [go_sem]; try rfl); exact (by simp only [go_sem]; try rfl); exact (by simp only [go_sem, gb]; try rfl); (intro h; exact absurd h (by decide)); apply t_nil
    simp only [AU, AThen]
    exact hcont bk bw _ _ (hx1 (by decide)) (none_fresh hbk) hbw hne (AHeap.get_put_same bk _ _) (get_fresh (AHeap.get_put_same bw _ _) hbk) rfl
theorem pS_right : rightB pS = true := by kernel_rfl
theorem pS_pow : powA pS [1, 2] = [2, 1] := by kernel_rfl
theorem pS_lev2 : levA pS 2 = 100 := by kernel_rfl
theorem pS_lev1 : levA pS 1 = 0 := by kernel_rfl
theorem pS_powers1 : powB (evS tPower [64, 98, 58, 115] (.mk 5 0 [] [] [])) = true := by kernel_rfl
theorem pS_powers0 : powB (evS tCreate [64, 97, 58, 115] (.mk 0 0 [] [] [])) = false := by kernel_rfl
theorem pS_near : nearA pS [] 1 = 0 := by kernel_rfl
theorem evS_wide (t s : List UInt8) (k : Int) (h : s.length ≤ 4611686018427387904) : (evS t s (.mk k 0 [] [] [])).Wide := ⟨J.len_eq.2 ⟨by simp [evS, J.keys], by simp [evS, J.list], by simp [evS, J.list]⟩, by simp [evS], by simp [evS], by simp [evS], h⟩
theorem evS_sml (t s : List UInt8) (k : Int) : Sml (evS t s (.mk k 0 [] [] [])).content := .mk ⟨by simp [evS, J.keys], by simp [evS, J.list], by simp [evS, J.text]⟩ (by simp [evS, J.keys]) (by simp [evS, J.list])
theorem pS_evs : ∀ e ∈ pS.events, e.Wide ∧ Sml e.content := fun e he => by
  simp only [pS, List.mem_cons, List.not_mem_nil, or_false] at he
  rcases he with rfl | rfl | rfl
  · exact ⟨evS_wide _ _ _ (by decide), evS_sml _ _ _⟩
  · exact ⟨evS_wide _ _ _ (by decide), evS_sml _ _ _⟩
  · exact ⟨evS_wide _ _ _ (by decide), evS_sml _ _ _⟩
theorem pS_wide : pS.Wide where
  nm := by decide
  ev := by decide
  pr := by decide
  au := by decide
  de := by decide
  evs := fun e he => (pS_evs e he).1
  prs := by decide
  aus := by decide
  nms := by decide
set_option maxHeartbeats 2000000 in
theorem awake_c (H : AHeap) (K : AV → AHeap → Prop) (h : K (.v (.bool true)) H) : ACall X 14 [] H K := by
  have hR : ∀ (H : AHeap) (K : AV → AHeap → Prop), K (.v (.bool true)) H → ACall X 25 [.agg (pCells pS)] H K := fun H K hk => right_c pS pS_wide H K (by rw [pS_right]; exact hk)
  have hsm : ∀ e ∈ pS.events, Sml e.content := fun e he => (pS_evs e he).2
  have hP : ∀ (H : AHeap) (K : AV → AHeap → Prop), K (.sl false [[.v (.int .i64 2)], [.v (.int .i64 1)]]) H → ACall X 19 [.agg (pCells pS), .sl true [[.v (.int .i64 1)], [.v (.int .i64 2)]]] H K := fun H K hk => byPower_c pS pS_wide hsm (by decide) true [1, 2] (by decide) H K (by rw [pS_pow]; exact hk)
  have hS : ∀ (H : AHeap) (K : AV → AHeap → Prop), K (.v (.bool true)) H → ACall X 18 [.sl false [[.v (.int .i64 2)], [.v (.int .i64 1)]], .sl true [[.v (.int .i64 2)], [.v (.int .i64 1)]]] H K := fun H K hk => same12_c false true [2, 1] [2, 1] (by decide) H K hk
  have hL2 : ∀ (H : AHeap) (K : AV → AHeap → Prop), K (.v (.int .i64 100)) H → ACall X 16 [.agg (pCells pS), .v (.int .i64 2)] H K := fun H K hk => level12_c pS pS_wide hsm 2 H K (by rw [pS_lev2]; exact hk)
  have hL1 : ∀ (H : AHeap) (K : AV → AHeap → Prop), K (.v (.int .i64 0)) H → ACall X 16 [.agg (pCells pS), .v (.int .i64 1)] H K := fun H K hk => level12_c pS pS_wide hsm 1 H K (by rw [pS_lev1]; exact hk)
  have hN : ∀ (H : AHeap) (K : AV → AHeap → Prop), K (.v (.int .i64 0)) H → ACall X 23 [.agg (pCells pS), .sl true [], .v (.int .i64 1)] H K := fun H K hk => near_c pS pS_wide (by decide) true [] (by decide) 1 H K (by rw [pS_near]; exact hk)
  have hW1 : ∀ (H : AHeap) (K : AV → AHeap → Prop), K (.v (.bool true)) H → ACall X 12 [.agg (evS tPower [64, 98, 58, 115] (.mk 5 0 [] [] [])).cells] H K := fun H K hk => powers_c _ (evS_wide _ _ _ (by decide)) H K (by rw [pS_powers1]; exact hk)
  have hW0 : ∀ (H : AHeap) (K : AV → AHeap → Prop), K (.v (.bool false)) H → ACall X 12 [.agg (evS tCreate [64, 97, 58, 115] (.mk 0 0 [] [] [])).cells] H K := fun H K hk => powers_c _ (evS_wide _ _ _ (by decide)) H K (by rw [pS_powers0]; exact hk)
  have hSa : ∀ (H : AHeap) (K : AV → AHeap → Prop), K (.agg (pCells pS)) H → ACall X 35 [] H K := fun H K hk => sample_c H K hk
  have ge0 : (pS.events.map Ev.cells)[0]? = some (evS tCreate [64, 97, 58, 115] (.mk 0 0 [] [] [])).cells := rfl
  have ge1 : (pS.events.map Ev.cells)[1]? = some (evS tPower [64, 98, 58, 115] (.mk 5 0 [] [] [])).cells := rfl
  refine ACall.drop ?_
  refine ACall_intro Tryz.func14 rfl (by kernel_rfl) (by rw [Tryz.ntmps14]; simp) ?_; rw [Tryz.ntmps14]; simp only [frame0, Nat.reduceAdd]
  (apply sR; intro K hK; refine qr ?_; refine s_nil (hK _ _ ?_); clear hK K; apply sR; intro K hK; apply s_call; decide; (iterate 2 (simp only [go_sem]; rfl)); apply hSa; apply s_alloc; decide; exact zc_35; intro b hb; apply s_store; (iterate 3 (simp only [go_sem]; rfl)); refine s_nil (hK _ _ ?_); clear hK K; apply sR; intro K hK; refine qr ?_)
  obtain ⟨q, hnewq⟩ : ∃ q, q = b := ⟨_, rfl⟩; have hq := hb; rw [← hnewq] at hq ⊢; clear hb hnewq; try clear he; clear b
  generalize hgenq : AHeap.put q _ H = M; obtain ⟨g1, hextq⟩ := gen_ex hgenq hq; have hE := hextq; clear hextq hgenq
  (apply s_call; decide; (iterate 2 (simp only [go_sem, g1, ge0, ge1]; rfl)); apply hR; apply s_q; decide; rfl; (simp only [go_sem, g1, ge0, ge1]; rfl); apply s_spec; decide; rfl; rfl; (iterate 4 (simp only [go_sem, g1, ge0, ge1]; rfl)); trivial; apply s_glit; decide; (iterate 3 (simp only [go_sem, g1, ge0, ge1]; rfl)); trivial; exact el_38; (iterate 2 (simp only [go_sem, g1, ge0, ge1]; rfl)); decide; apply s_gpure; decide; (iterate 3 (simp only [go_sem, g1, ge0, ge1]; rfl)); trivial; (iterate 2 (simp only [go_sem, g1, ge0, ge1]; rfl)); (apply hP; exact ⟨rfl, rfl⟩); apply s_glit; decide; (iterate 3 (simp only [go_sem, g1, ge0, ge1]; rfl)); trivial; exact el_38; (iterate 2 (simp only [go_sem, g1, ge0, ge1]; rfl)); decide; apply s_gpure; decide; (iterate 3 (simp only [go_sem, g1, ge0, ge1]; rfl)); trivial; (iterate 2 (simp only [go_sem, g1, ge0, ge1]; rfl)); (apply hS; exact ⟨rfl, rfl⟩); apply s_pick; decide; (iterate 6 (simp only [go_sem, g1, ge0, ge1]; rfl)); trivial; trivial; trivial; apply s_q; decide; rfl; (simp only [go_sem, g1, ge0, ge1]; rfl); apply s_spec; decide; rfl; rfl; (iterate 4 (simp only [go_sem, g1, ge0, ge1]; rfl)); trivial; apply s_gpure; decide; (iterate 3 (simp only [go_sem, g1, ge0, ge1]; rfl)); trivial; (iterate 2 (simp only [go_sem, g1, ge0, ge1]; rfl)); (apply hL2; exact ⟨rfl, rfl⟩); apply s_spec; decide; rfl; rfl; (iterate 4 (simp only [go_sem, g1, ge0, ge1]; rfl)); trivial; apply s_pick; decide; (iterate 6 (simp only [go_sem, g1, ge0, ge1]; rfl)); trivial; trivial; trivial; apply s_q; decide; rfl; (simp only [go_sem, g1, ge0, ge1]; rfl); apply s_spec; decide; rfl; rfl; (iterate 4 (simp only [go_sem, g1, ge0, ge1]; rfl)); trivial; apply s_gpure; decide; (iterate 3 (simp only [go_sem, g1, ge0, ge1]; rfl)); trivial; (iterate 2 (simp only [go_sem, g1, ge0, ge1]; rfl)); (apply hL1; exact ⟨rfl, rfl⟩); apply s_spec; decide; rfl; rfl; (iterate 4 (simp only [go_sem, g1, ge0, ge1]; rfl)); trivial; apply s_pick; decide; (iterate 6 (simp only [go_sem, g1, ge0, ge1]; rfl)); trivial; trivial; trivial; apply s_q; decide; rfl; (simp only [go_sem, g1, ge0, ge1]; rfl); (iterate 2 (apply s_spec; decide; rfl; rfl; (iterate 4 (simp only [go_sem, g1, ge0, ge1]; rfl)); trivial)); apply s_when; decide; (iterate 3 (simp only [go_sem, g1, ge0, ge1]; rfl)); trivial; (intro hg; (focus (simp only [go_sem, g1, ge0, ge1]; (try rfl); done))); apply s_spec; decide; rfl; rfl; (iterate 4 (simp only [go_sem, g1, ge0, ge1]; rfl)); trivial; apply s_gpure; decide; (iterate 3 (simp only [go_sem, g1, ge0, ge1]; rfl)); trivial; (iterate 2 (simp only [go_sem, g1, ge0, ge1]; rfl)); (apply hW1; exact ⟨rfl, rfl⟩); apply s_pick; decide; (iterate 6 (simp only [go_sem, g1, ge0, ge1]; rfl)); trivial; trivial; trivial; apply s_q; decide; rfl; (simp only [go_sem, g1, ge0, ge1]; rfl); (iterate 2 (apply s_spec; decide; rfl; rfl; (iterate 4 (simp only [go_sem, g1, ge0, ge1]; rfl)); trivial)); apply s_when; decide; (iterate 3 (simp only [go_sem, g1, ge0, ge1]; rfl)); trivial; (intro hg; (focus (simp only [go_sem, g1, ge0, ge1]; (try rfl); done))); apply s_spec; decide; rfl; rfl; (iterate 4 (simp only [go_sem, g1, ge0, ge1]; rfl)); trivial; apply s_gpure; decide; (iterate 3 (simp only [go_sem, g1, ge0, ge1]; rfl)); trivial; (iterate 2 (simp only [go_sem, g1, ge0, ge1]; rfl)); (apply hW0; exact ⟨rfl, rfl⟩); apply s_spec; decide; rfl; rfl; (iterate 4 (simp only [go_sem, g1, ge0, ge1]; rfl)); trivial; apply s_pick; decide; (iterate 6 (simp only [go_sem, g1, ge0, ge1]; rfl)); trivial; trivial; trivial; apply s_q; decide; rfl; (simp only [go_sem, g1, ge0, ge1]; rfl); apply s_spec; decide; rfl; rfl; (iterate 4 (simp only [go_sem, g1, ge0, ge1]; rfl)); trivial; apply s_gpure; decide; (iterate 3 (simp only [go_sem, g1, ge0, ge1]; rfl)); trivial; (iterate 2 (simp only [go_sem, g1, ge0, ge1]; rfl)); (apply hN; exact ⟨rfl, rfl⟩); apply s_spec; decide; rfl; rfl; (iterate 4 (simp only [go_sem, g1, ge0, ge1]; rfl)); trivial; apply s_pick; decide; (iterate 6 (simp only [go_sem, g1, ge0, ge1]; rfl)); trivial; trivial; trivial; apply s_q; decide; rfl; (simp only [go_sem, g1, ge0, ge1]; rfl); refine s_nil (hK _ _ ?_); clear hK K; apply AWp_ret)
  exact ⟨H, hE, h⟩
end Go.Proofs.YtcpfgjfiacfmoaaGreatDoor
