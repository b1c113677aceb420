/-
  The document's levels: Number, told, named, Parse. Contracts.
-/
import Derived.Test.YtcpfgjfiacfmoaaGreatDoorPPart8
import Derived.Test.YtcpfgjfiacfmoaaGreatDoorPPart9
import Derived.Test.YtcpfgjfiacfmoaaGreatDoorPPart7
import Derived.Shelf.SlGeneric
import Derived.Shelf.Small.Bits
import Derived.Shelf.Sort.Plain
import Derived.Ground.Names2Prog
import Derived.Ground.NamesProg
import Derived.Shelf.Slices.CompactI
import Derived.Shelf.Slices.Cells
import Derived.Shelf.Slices.In.SortNone
import Derived.Ground.SlsfProg
import Derived.Shelf.SlSortCmp.Whole1
import Derived.Shelf.SlSortCmp.NoneTotal
import Derived.Shelf.Spec.SlicesInsert
import Derived.Shelf.Spec.SlicesInsertGrow
import Derived.Test.YtcpfgjfiacfmoaaGreatDoorProg
import Derived.Test.YtcpfgjfiacfmoaaGreatDoorPAL4
import Derived.Test.YtcpfgjfiacfmoaaGreatDoorPPart4
import Derived.Test.YtcpfgjfiacfmoaaGreatDoorPPart6
set_option linter.unusedSimpArgs false
set_option linter.unusedVariables false
set_option maxRecDepth 100000
namespace Go.Proofs.YtcpfgjfiacfmoaaGreatDoor
open Go Go.AL
attribute [local irreducible] AOps AWp SOps AE AT ACall AApp

theorem rnumber_c (j : J) (H : AHeap) (Kc : AV → AHeap → Prop) (h : Kc (.tup [.v (.int .i64 j.int), .v (.bool (levelB j))]) H) : ACall X 106 [.agg j.cells] H Kc := by
  refine ACall.drop ?_
  rw [J.cells_eq]
  refine ACall_intro Tryz.func106 rfl (by kernel_rfl) (by rw [Tryz.ntmps106]; simp) ?_; rw [Tryz.ntmps106]; simp only [frame0, Nat.reduceAdd]
  apply sR; intro K hK
  apply s_box; decide; exact (by simp only [go_sem]; try rfl); exact (by simp only [go_sem]; try rfl); intro p hp
  ((iterate 2 (refine qr ?_)); refine s_nil (hK _ _ ?_); clear hK K; apply sK; intro K hK)
  generalize hgenq : AHeap.put p _ H = M; obtain ⟨g, hextq⟩ := gen_ex hgenq hp; have hE := hextq; clear hextq hgenq
  apply AWp_drawA [0, 1, 2, 3, 4, 5, 6, 7, 8, 9, 10, 11, 12, 13, 14, 15, 16] [] 0 (by exact mixed); kernel_rfl; (iterate 2 (simp only [go_sem]; rfl))
  ((iterate 6 (apply e_q; decide; (simp only [go_sem, g]; rfl))); apply e_spec; decide; (iterate 4 (simp only [go_sem, g]; rfl)); trivial; (iterate 2 (apply e_spec; decide; (iterate 4 (simp only [go_sem, g]; rfl)); simp [condsOk])); apply e_pick; decide; (iterate 6 (simp only [go_sem, g]; rfl)); trivial; simp [condsOk]; trivial; apply e_q; decide; (simp only [go_sem, g]; rfl); apply e_spec; decide; (iterate 4 (simp only [go_sem, g]; rfl)); trivial; (iterate 2 (apply e_spec; decide; (iterate 4 (simp only [go_sem, g]; rfl)); simp [condsOk])); apply e_pick; decide; (iterate 6 (simp only [go_sem, g]; rfl)); trivial; simp [condsOk]; trivial; (iterate 2 (apply e_q; decide; (simp only [go_sem, g]; rfl))); apply e_nil; refine t_nil (hK _ _ ?_); clear hK K; apply AWp_ret)
  refine end_ret (av := .tup [.v (.int .i64 j.int), .v (.bool (levelB j))]) ?_ ⟨H, hE, h⟩
  show resAV X.P _ _ [.tmp 2, .tmp 3] = _
  simp only [go_sem, levelB]; try rfl
def tellB (o : Option J) : Bool := match o with | none => true | some v => levelB v
theorem told_c (j : J) (hl : j.keys.length ≤ 9223372036854775807 ∧ j.list.length ≤ 9223372036854775807) (key : List UInt8) (n : Int) (H : AHeap) (Kc : AV → AHeap → Prop) (h : Kc (.tup [.v (.int .i64 (numR (jGet j key) n)), .v (.bool (tellB (jGet j key)))]) H) : ACall X 72 [.agg j.cells, .s key, .v (.int .i64 n)] H Kc := by
  refine ACall.drop ?_
  obtain ⟨o, ho⟩ : ∃ o, o = jGet j key := ⟨_, rfl⟩
  have hG : ∀ (H : AHeap) (K : AV → AHeap → Prop), K (getRes o) H → ACall X 66 [.agg j.cells, .s key] H K := fun H K hk => get_c j hl _ H K (by rw [← ho]; exact hk)
  rw [← ho] at h
  clear ho
  rw [J.cells_eq]
  refine ACall_intro Tryz.func72 rfl (by kernel_rfl) (by rw [Tryz.ntmps72]; simp) ?_; rw [Tryz.ntmps72]; simp only [frame0, Nat.reduceAdd]
  apply sR; intro K hK
  apply s_box; decide; exact (by simp only [go_sem]; try rfl); exact (by simp only [go_sem]; try rfl); intro p hp
  ((iterate 2 (refine qr ?_)); refine s_nil (hK _ _ ?_); clear hK K; apply sR; intro K hK; (iterate 2 (refine qr ?_)))
  generalize hgenq : AHeap.put p _ H = M; obtain ⟨g, hextq⟩ := gen_ex hgenq hp; have hE := hextq; clear hextq hgenq
  cases o with
  | none =>
    have hG : ∀ (H : AHeap) (K : AV → AHeap → Prop), K (.tup [.agg (J.mk 0 0 [] [] []).cells, .v (.bool false)]) H → ACall X 66 [.agg j.cells, .s key] H K := hG
    have jz := J.cells_eq (J.mk 0 0 [] [] [])
    (apply s_call; decide; (iterate 2 (simp only [go_sem, g, jz]; rfl)); refine ACall.args_eq (bs := [.agg j.cells, .s key]) ?_ ?_; (focus (rw [J.cells_eq j]; done)); apply hG; (iterate 3 (apply s_q; decide; rfl; (simp only [go_sem, g, jz]; rfl))); apply s_alloc; decide; exact zc_25; intro b hb; apply s_store; (iterate 3 (simp only [go_sem, g, jz]; rfl)); apply s_q; decide; rfl; (simp only [go_sem, g, jz]; rfl); refine s_nil (hK _ _ ?_); clear hK K; apply sK; intro K hK; apply sR; intro K hK; (iterate 2 (apply s_q; decide; rfl; (simp only [go_sem, g, jz]; rfl))); refine s_nil (hK _ _ ?_); clear hK K)
    obtain ⟨q, hnewq⟩ : ∃ q, q = b := ⟨_, rfl⟩; have hq := hb; rw [← hnewq] at hq ⊢; clear hb hnewq; try clear he; clear b
    generalize hgenq : AHeap.put q _ M = M2; obtain ⟨g2, hextq⟩ := gen_ex hgenq hq; have g := hextq _ _ g; have hE := Ext.trans hE hextq; clear hextq hgenq
    refine cs (fun hc => ?_) (fun hc => ?_)
    · (apply sR; intro K hK; (iterate 3 (refine qr ?_)); refine s_nil (hK _ _ ?_); clear hK K; apply AWp_ret; simp only [AThen, ABlock]; apply end_ret; rfl; simp only [AFr.get, reduceIte, Nat.reduceEqDiff])
      exact ⟨H, hE, h⟩
    · simp at hc
  | some v =>
    have hG : ∀ (H : AHeap) (K : AV → AHeap → Prop), K (.tup [.agg v.cells, .v (.bool true)]) H → ACall X 66 [.agg j.cells, .s key] H K := hG
    (apply s_call; decide; (iterate 2 (simp only [go_sem, g, J.cells_eq v]; rfl)); refine ACall.args_eq (bs := [.agg j.cells, .s key]) ?_ ?_; (focus (rw [J.cells_eq j]; done)); apply hG; (iterate 3 (apply s_q; decide; rfl; (simp only [go_sem, g, J.cells_eq v]; rfl))); apply s_alloc; decide; exact zc_25; intro b hb; apply s_store; (iterate 3 (simp only [go_sem, g, J.cells_eq v]; rfl)); apply s_q; decide; rfl; (simp only [go_sem, g, J.cells_eq v]; rfl); refine s_nil (hK _ _ ?_); clear hK K; apply sK; intro K hK; apply sR; intro K hK; (iterate 2 (apply s_q; decide; rfl; (simp only [go_sem, g, J.cells_eq v]; rfl))); refine s_nil (hK _ _ ?_); clear hK K)
    obtain ⟨q, hnewq⟩ : ∃ q, q = b := ⟨_, rfl⟩; have hq := hb; rw [← hnewq] at hq ⊢; clear hb hnewq; try clear he; clear b
    generalize hgenq : AHeap.put q _ M = M2; obtain ⟨g2, hextq⟩ := gen_ex hgenq hq; have g := hextq _ _ g; have hE := Ext.trans hE hextq; clear hextq hgenq
    refine cs (fun hc => ?_) (fun hc => ?_)
    · simp at hc
    · (refine AWp_skip (hK _ _ ?_); clear hK K; apply sR; intro K hK; apply s_q; decide; rfl; (simp only [go_sem, g2]; rfl); apply s_call; decide; (iterate 2 (simp only [go_sem, g2]; rfl)); refine ACall.args_eq (bs := [.agg v.cells]) ?_ ?_; (focus (rw [J.cells_eq v]; done)); apply rnumber_c; (iterate 4 (apply s_q; decide; rfl; (simp only [go_sem, g2]; rfl))); refine s_nil (hK _ _ ?_); clear hK K; apply AWp_ret)
      exact ⟨H, hE, h⟩
def nameOk (p : List UInt8 → Bool) (o : Option J) : Bool := match o with | none => true | some v => decide (v.kind = 5) && (v.keys.zip v.list).all fun x => levelB x.2 && p x.1
theorem snap_tup {e sz : Nat} {K0 L : AHeap} {es : List (List AV)} {a : AV} {c : Bool} (h : RowAt e sz K0 L es a) (hE : Ext K0 L) : Snap X [.tup [a, .v (.bool c)]] L [.tup [.sl false es, .v (.bool c)]] K0 := by
  rcases h with ⟨rfl, rfl⟩ | ⟨b, h1, rfl, h3⟩
  · exact Snap.trans Snap.loosen (Snap.drop hE)
  · have h5 : Snap X [.tup [.row b sz es.length, .v (.bool c)]] L (AV.snaps b sz es [.tup [.row b sz es.length, .v (.bool c)]]) (L.put b (.row e sz true es)) := Snap.row h3
    simp only [AV.snaps, AV.snap] at h5
    rw [if_pos trivial, if_pos ⟨trivial, Nat.le_refl _⟩, List.take_length] at h5
    exact h5.trans (Snap.drop (Ext.over hE h1))
theorem all_takeK {α : Type} {l : List α} {i : Nat} {x : α} {p : α → Bool} (h : (l.take i).all p = true) (hx : l[i]? = some x) (hp : p x = true) : (l.take (i + 1)).all p = true := by
  rw [take_succ hx, List.all_append, h]; simp [hp]
theorem all_false {α : Type} {l : List α} {i : Nat} {x : α} {p : α → Bool} (hx : l[i]? = some x) (hp : p x = false) : l.all p = false := by
  rw [Bool.eq_false_iff]; intro h
  rw [List.all_eq_true.1 h x (List.mem_of_getElem? hx)] at hp; cases hp
set_option maxHeartbeats 4000000 in
theorem rnamed_c (j : J) (hl : j.keys.length ≤ 9223372036854775807 ∧ j.list.length ≤ 9223372036854775807) (key : List UInt8) (user : Bool) (hv : ∀ v, jGet j key = some v → goodB 12 v = true ∧ J.Fit v) (H : AHeap) (Kc : AV → AHeap → Prop)
    (h : Kc (.tup [.sl false ((if nameOk (if user = true then isUserB else isType) ((jGet j key).map J.ord) = true then namesR ((jGet j key).map J.ord) else []).map nmCells), .v (.bool (nameOk (if user = true then isUserB else isType) ((jGet j key).map J.ord)))]) H) : ACall X 73 [.agg j.cells, .s key, .v (.bool user)] H Kc := by
  refine ACall.post ?_
  obtain ⟨o, ho⟩ : ∃ o, o = jGet j key := ⟨_, rfl⟩
  have hG : ∀ (H : AHeap) (K : AV → AHeap → Prop), K (getRes o) H → ACall X 66 [.agg j.cells, .s key] H K := fun H K hk => get_c j hl _ H K (by rw [← ho]; exact hk)
  rw [← ho] at h hv
  clear ho
  rw [J.cells_eq]
  refine ACall_intro Tryz.func73 rfl (by kernel_rfl) (by rw [Tryz.ntmps73]; simp) ?_; rw [Tryz.ntmps73]; simp only [frame0, Nat.reduceAdd]
  apply sR; intro K hK
  apply s_box; decide; exact (by simp only [go_sem]; try rfl); exact (by simp only [go_sem]; try rfl); intro p hp
  ((iterate 2 (refine qr ?_)); refine s_nil (hK _ _ ?_); clear hK K; apply sR; intro K hK; (iterate 2 (refine qr ?_)))
  generalize hgenq : AHeap.put p _ H = M; obtain ⟨g, hextq⟩ := gen_ex hgenq hp; have hE := hextq; clear hextq hgenq
  cases o with
  | none =>
    have hG : ∀ (H : AHeap) (K : AV → AHeap → Prop), K (.tup [.agg (J.mk 0 0 [] [] []).cells, .v (.bool false)]) H → ACall X 66 [.agg j.cells, .s key] H K := hG
    have jz := J.cells_eq (J.mk 0 0 [] [] [])
    (apply s_call; decide; (iterate 2 (simp only [go_sem, g, jz]; rfl)); refine ACall.args_eq (bs := [.agg j.cells, .s key]) ?_ ?_; (focus (rw [J.cells_eq j]; done)); apply hG; (iterate 3 (apply s_q; decide; rfl; (simp only [go_sem, g, jz]; rfl))); apply s_alloc; decide; exact zc_25; intro b hb; apply s_store; (iterate 3 (simp only [go_sem, g, jz]; rfl)); apply s_q; decide; rfl; (simp only [go_sem, g, jz]; rfl); refine s_nil (hK _ _ ?_); clear hK K; apply sK; intro K hK; apply sR; intro K hK; (iterate 2 (apply s_q; decide; rfl; (simp only [go_sem, g, jz]; rfl))); refine s_nil (hK _ _ ?_); clear hK K)
    obtain ⟨q, hnewq⟩ : ∃ q, q = b := ⟨_, rfl⟩; have hq := hb; rw [← hnewq] at hq ⊢; clear hb hnewq; try clear he; clear b
    generalize hgenq : AHeap.put q _ M = M2; obtain ⟨g2, hextq⟩ := gen_ex hgenq hq; have g := hextq _ _ g; have hE := Ext.trans hE hextq; clear hextq hgenq
    refine cs (fun hc => ?_) (fun hc => ?_)
    · (apply sR; intro K hK; (iterate 2 (refine qr ?_)); refine s_nil (hK _ _ ?_); clear hK K; apply AWp_ret; simp only [AThen, ABlock]; apply end_ret; rfl; simp only [AFr.get, reduceIte, Nat.reduceEqDiff])
      exact ⟨_, _, Snap.trans Snap.loosen (Snap.drop hE), h⟩
    · simp at hc
  | some v =>
    obtain ⟨v1, v2⟩ := hv v rfl
    have hG : ∀ (H : AHeap) (K : AV → AHeap → Prop), K (.tup [.agg v.cells, .v (.bool true)]) H → ACall X 66 [.agg j.cells, .s key] H K := hG
    (apply s_call; decide; (iterate 2 (simp only [go_sem, g, J.cells_eq v]; rfl)); refine ACall.args_eq (bs := [.agg j.cells, .s key]) ?_ ?_; (focus (rw [J.cells_eq j]; done)); apply hG; (iterate 3 (apply s_q; decide; rfl; (simp only [go_sem, g, J.cells_eq v]; rfl))); apply s_alloc; decide; exact zc_25; intro b hb; apply s_store; (iterate 3 (simp only [go_sem, g, J.cells_eq v]; rfl)); apply s_q; decide; rfl; (simp only [go_sem, g, J.cells_eq v]; rfl); refine s_nil (hK _ _ ?_); clear hK K; apply sK; intro K hK; apply sR; intro K hK; (iterate 2 (apply s_q; decide; rfl; (simp only [go_sem, g, J.cells_eq v]; rfl))); refine s_nil (hK _ _ ?_); clear hK K)
    obtain ⟨q, hnewq⟩ : ∃ q, q = b := ⟨_, rfl⟩; have hq := hb; rw [← hnewq] at hq ⊢; clear hb hnewq; try clear he; clear b
    have hHq : H.get q = none := none_of_ext hE hq
    generalize hgenq : AHeap.put q _ M = M2; obtain ⟨g2, hextq⟩ := gen_ex hgenq hq; have g := hextq _ _ g; have hE := Ext.trans hE hextq; clear hextq hgenq
    refine cs (fun hc => ?_) (fun hc => ?_)
    · simp at hc
    clear hc
    (refine AWp_skip (hK _ _ ?_); clear hK K; apply sK; intro K hK; apply sR; intro K hK; (iterate 3 (apply s_q; decide; rfl; (simp only [go_sem, g2]; rfl))); refine s_nil (hK _ _ ?_); clear hK K)
    have hko : v.ord.kind = v.kind := by rw [ord_eq]; split <;> simp_all [J.kind]
    refine cs (fun hc => ?_) (fun hc => ?_)
    · have h5 : ¬ v.kind = 5 := by simpa using hc
      have hn : nameOk (if user = true then isUserB else isType) (some v.ord) = false := by simp [nameOk, hko, h5]
      have h : Kc (.tup [.sl false ((if nameOk (if user = true then isUserB else isType) (some v.ord) = true then namesR (some v.ord) else []).map nmCells), .v (.bool (nameOk (if user = true then isUserB else isType) (some v.ord)))]) H := h
      rw [hn] at h
      (apply sR; intro K hK; (iterate 2 (refine qr ?_)); refine s_nil (hK _ _ ?_); clear hK K; apply AWp_ret; simp only [AThen, ABlock]; apply end_ret; rfl; simp only [AFr.get, reduceIte, Nat.reduceEqDiff])
      exact ⟨_, _, Snap.trans Snap.loosen (Snap.drop hE), h⟩
    have h5 : v.kind = 5 := by simpa using hc
    obtain ⟨w, hw⟩ : ∃ w, w = v.ord := ⟨_, rfl⟩
    have h : Kc (.tup [.sl false ((if nameOk (if user = true then isUserB else isType) (some v.ord) = true then namesR (some v.ord) else []).map nmCells), .v (.bool (nameOk (if user = true then isUserB else isType) (some v.ord)))]) H := h
    have hOrd : ∀ (H : AHeap) (K : AV → AHeap → Prop), K (.agg [.v (.int .i64 w.kind), .v (.int .i64 w.int), .s w.text, .sl false (w.keys.map strCells), .sl false (w.list.map J.cells)]) H → ACall X 107 [.agg v.cells] H K := fun H K hk => rOrder_c v v2 (by rw [if_pos v1, ← hw, J.cells_eq]; exact hk)
    have hwl : w.keys.length = w.list.length ∧ w.keys.length ≤ 1000000000 := by
      have f := (fit_eq.1 v2).1
      rw [hw, ord_eq, if_pos h5]
      refine ⟨by simp [J.keys, J.list], ?_⟩
      simp only [J.keys, List.length_map, places_len]; exact f.1
    have hw5 : w.kind = 5 := by rw [hw, hko, h5]
    have hkw : ∀ k ∈ w.keys, k.length ≤ 4611686018427387904 := fun k hk => by
      rw [hw, ord_eq, if_pos h5] at hk
      simp only [J.keys, List.mem_map] at hk
      obtain ⟨i, hi, rfl⟩ := hk
      have hlt := places_lt hi
      rw [List.getD_eq_getElem?_getD, List.getElem?_eq_getElem hlt]
      exact (fit_eq.1 v2).2.2.1 _ (List.getElem_mem hlt)
    rw [← hw] at h
    clear hw hko
    (refine AWp_skip (hK _ _ ?_); clear hK K; apply sR; intro K hK; apply s_q; decide; rfl; (simp only [go_sem, g2]; rfl); apply s_call; decide; (iterate 2 (simp only [go_sem, g2]; rfl)); refine ACall.args_eq (bs := [.agg v.cells]) ?_ ?_; (focus (rw [J.cells_eq v]; done)); apply hOrd; apply s_store; (iterate 3 (simp only [go_sem, g2]; rfl)); refine s_nil (hK _ _ ?_); clear hK K; apply sR; intro K hK; apply s_q; decide; rfl; (simp only [go_sem, g2]; rfl); refine s_nil (hK _ _ ?_); clear hK K; apply sK; intro K hK; apply sR; intro K hK; apply s_q; decide; rfl; (simp only [go_sem, g2]; rfl); refine s_nil (hK _ _ ?_); clear hK K; apply AWp_block)
    have hE3 := hE.over hHq (o := jbox w.kind w.int w.text (.sl false (w.keys.map strCells)) (.sl false (w.list.map J.cells)))
    have g3 := AHeap.get_put_same q (jbox w.kind w.int w.text (.sl false (w.keys.map strCells)) (.sl false (w.list.map J.cells))) M2
    generalize AHeap.put q (jbox w.kind w.int w.text (.sl false (w.keys.map strCells)) (.sl false (w.list.map J.cells))) M2 = M3 at hE3 g3 ⊢
    obtain ⟨pr, hpr⟩ : ∃ pr, pr = (if user = true then isUserB else isType) := ⟨_, rfl⟩
    rw [← hpr] at h
    obtain ⟨z, hz⟩ : ∃ z, z = w.keys.zip w.list := ⟨_, rfl⟩
    have hzl : z.length = w.keys.length := by rw [hz, List.length_zip]; omega
    obtain ⟨okp, hokp⟩ : ∃ okp : List UInt8 × J → Bool, okp = fun x => levelB x.2 && pr x.1 := ⟨_, rfl⟩
    have hnok : nameOk pr (some w) = z.all okp := by rw [hz, hokp]; simp [nameOk, hw5]
    have hnr : namesR (some w) = namesL z := by rw [hz]; rfl
    rw [hnok, hnr] at h
    clear hE g2
    refine AWp_loop_s (σ := Nat × AV × AHeap) [2, 8, 10, 11] (fun s => [.v (.bool user), ptrTo q, s.2.1, .v (.int .i64 ((s.1 : Nat) : Int))]) (fun s => s.2.2) (fun s => w.keys.length - s.1)
      (fun s => s.1 ≤ w.keys.length ∧ s.2.2.get q = some (jbox w.kind w.int w.text (.sl false (w.keys.map strCells)) (.sl false (w.list.map J.cells))) ∧ Ext H s.2.2 ∧ RowAt 98 2 H s.2.2 ((namesL (z.take s.1)).map nmCells) s.2.1 ∧ (z.take s.1).all okp = true)
      (0, .sl true [], M3) ⟨Nat.zero_le _, g3, hE3, RowAt.nil _ _ _ _, by simp⟩ rfl rfl (fun s hs => ?_)
    obtain ⟨n, a, L⟩ := s
    obtain ⟨hn, hqL, hE, hR, hall⟩ := hs
    clear g3 hE3
    simp only [List.zip_cons_cons, List.zip_nil_right] at hn hqL hE hR hall ⊢
    (apply sK; intro K hK; apply sR; intro K hK; (iterate 5 (apply s_q; decide; rfl; (simp only [go_sem, hqL]; rfl))); refine s_nil (hK _ _ ?_); clear hK K)
    refine cs (fun hd => ?_) (fun hd => ?_)
    · have hlt : n < w.keys.length := by simpa using hd
      obtain ⟨ky, hky⟩ := gete hlt
      have hgk := jstr_at hky
      obtain ⟨x, hx⟩ := gete (l := w.list) (i := n) (by omega)
      have hgx := jget_at hx
      have hzn : z[n]? = some (ky, x) := by rw [hz, List.getElem?_zip_eq_some]; exact ⟨hky, hx⟩
      have hkyl := hkw ky (List.mem_of_getElem? hky)
      have e1 : namesL (z.take (n + 1)) = namesL (z.take n) ++ [(ky, x.int)] := by rw [take_succ hzn, namesL, List.map_append]; rfl
      have hul : (namesL (z.take n)).length ≤ 1000000000 := by rw [namesL, List.length_map, List.length_take]; omega
      have hU : ∀ (H : AHeap) (K : AV → AHeap → Prop), K (.v (.bool (isUserB ky))) H → ACall X 108 [.s ky] H K := fun H K hk => risUser4_c ky hkyl H K hk
      have hTy : ∀ (H : AHeap) (K : AV → AHeap → Prop), K (.v (.bool (isType ky))) H → ACall X 109 [.s ky] H K := fun H K hk => rtype4_c ky hkyl H K hk
      refine AWp_skip (hK _ _ ?_); clear hK K
      apply sK; intro K hK
      apply AWp_block
      apply sR; intro K hK
      ((iterate 5 (apply s_q; decide; rfl; (simp only [go_sem, hqL, hgx]; rfl))); apply s_call; decide; (iterate 2 (simp only [go_sem, hqL, hgx]; rfl)); refine ACall.args_eq (bs := [.agg x.cells]) ?_ ?_; (focus (rw [J.cells_eq x]; done)); apply rnumber_c x; (iterate 5 (apply s_q; decide; rfl; (simp only [go_sem, hqL, hgx]; rfl))))
      refine s_nil (hK _ _ ?_); clear hK K
      refine AWp_seq_k (fun K0 hK0 => ?_)
      have hgo : ∀ fr, getAll [2, 8, 10, 11, 12, 13] fr = [.v (.bool user), ptrTo q, a, .v (.int .i64 ((n : Nat) : Int)), .v (.int .i64 x.int), .v (.bool (if levelB x = true then pr ky else false))] → K0 fr L := fun fr hfr => by
        refine hK0 _ _ (AWp_cut _ hfr ?_)
        simp only [List.zip_cons_cons, List.zip_nil_right]
        clear hK0
        (apply sK; intro K hK; apply sR; intro K hK; (iterate 2 (refine qr ?_)); refine s_nil (hK _ _ ?_); clear hK K)
        refine cs (fun hf => ?_) (fun hf => ?_)
        · have hbad : z.all okp = false := all_false hzn (by rw [hokp]; cases hx : levelB x <;> simp [hx] at hf ⊢; exact hf)
          rw [hbad] at h
          (apply sR; intro K hK; (iterate 2 (refine qr ?_)); refine s_nil (hK _ _ ?_); clear hK K; apply AWp_ret; simp only [AThen, ABlock]; apply end_ret; rfl; simp only [AFr.get, reduceIte, Nat.reduceEqDiff])
          exact ⟨_, _, Snap.trans Snap.loosen (Snap.drop hE), h⟩
        · have hgood : okp (ky, x) = true := by rw [hokp]; cases hx : levelB x <;> simp [hx] at hf ⊢; exact hf
          (refine AWp_skip (hK _ _ ?_); clear hK K; apply s_region; (iterate 8 (apply s_q; decide; rfl; (simp only [go_sem, hqL, hgk]; rfl))); apply s_lit; decide; exact el_56; (iterate 2 (simp only [go_sem, hqL, hgk]; rfl)); decide; apply s_append; decide; (iterate 2 (simp only [go_sem, hqL, hgk]; rfl)); apply AApp_at el_56 hE hR (l := namesL (z.take n)) (m := [(ky, x.int)]) (g := nmCells) rfl rfl tk_56 nm_one (by simp; omega) (by simp; omega); intro s2 L3 r1 r2 r3; apply s_q; decide; rfl; (simp only [go_sem, hqL, hgk]; rfl); refine s_nil (hK _ _ ?_); clear hK K; apply s_region; (iterate 3 (apply s_q; decide; rfl; (simp only [go_sem, hqL, hgk]; rfl))); apply s_nil; simp only [AThen, ABlock])
          refine ⟨(n + 1, s2, L3), by simp only; omega, ⟨by simp only; omega, r3 q _ hqL (fun _ _ _ h => by cases h), r2, by simp only [e1]; exact r1, all_takeK hall hzn hgood⟩, ?_, by trivial⟩
          simp only [getAll, List.map, AFr.get, reduceIte, Nat.reduceEqDiff]
          rw [wrapS hlt (by omega)]; try rfl
      clear hK0
      (apply sR; intro K hK; refine qr ?_; refine s_nil (hK _ _ ?_); clear hK K)
      refine cs (fun hu => ?_) (fun hu => ?_)
      · subst hu
        rw [if_pos rfl] at hpr
        subst hpr
        (apply s_region; (iterate 2 (apply s_q; decide; rfl; (simp only [go_sem, hqL]; rfl))); apply s_spec; decide; rfl; rfl; (iterate 4 (simp only [go_sem, hqL]; rfl)); trivial; apply s_spec; decide; rfl; rfl; (iterate 4 (simp only [go_sem, hqL]; rfl)); simp [condsOk]; apply s_spec; decide; rfl; rfl; (iterate 4 (simp only [go_sem, hqL]; rfl)); trivial; apply s_when; decide; (iterate 3 (simp only [go_sem, hqL]; rfl)); simp [condsOk]; (intro hg; simp only [go_sem, hqL, hgk]; try rfl); apply s_spec; decide; rfl; rfl; (iterate 4 (simp only [go_sem, hqL]; rfl)); simp [condsOk]; apply s_gpure; decide; (iterate 3 (simp only [go_sem, hqL]; rfl)); simp [condsOk]; (iterate 2 (simp only [go_sem, hqL]; rfl)); (apply hU; exact ⟨rfl, rfl⟩); apply s_pick; decide; (iterate 6 (simp only [go_sem, hqL]; rfl)); trivial; simp [condsOk]; trivial; apply s_q; decide; rfl; (simp only [go_sem, hqL]; rfl); apply s_nil; simp only [AThen, ABlock])
        exact hgo _ rfl
      · subst hu
        rw [if_neg (by decide)] at hpr
        subst hpr
        (apply s_region; (iterate 2 (apply s_q; decide; rfl; (simp only [go_sem, hqL]; rfl))); apply s_spec; decide; rfl; rfl; (iterate 4 (simp only [go_sem, hqL]; rfl)); trivial; apply s_spec; decide; rfl; rfl; (iterate 4 (simp only [go_sem, hqL]; rfl)); simp [condsOk]; apply s_spec; decide; rfl; rfl; (iterate 4 (simp only [go_sem, hqL]; rfl)); trivial; apply s_when; decide; (iterate 3 (simp only [go_sem, hqL]; rfl)); simp [condsOk]; (intro hg; simp only [go_sem, hqL, hgk]; try rfl); apply s_spec; decide; rfl; rfl; (iterate 4 (simp only [go_sem, hqL]; rfl)); simp [condsOk]; apply s_gpure; decide; (iterate 3 (simp only [go_sem, hqL]; rfl)); simp [condsOk]; (iterate 2 (simp only [go_sem, hqL]; rfl)); (apply hTy; exact ⟨rfl, rfl⟩); apply s_pick; decide; (iterate 6 (simp only [go_sem, hqL]; rfl)); trivial; simp [condsOk]; trivial; apply s_q; decide; rfl; (simp only [go_sem, hqL]; rfl); apply s_nil; simp only [AThen, ABlock])
        exact hgo _ rfl
    · have hge : z.length ≤ n := by simp at hd; omega
      rw [List.take_of_length_le hge] at hall hR
      rw [hall] at h
      (apply AWp_exit; simp only [AThen, ABlock, reduceIte, Nat.reduceEqDiff]; clear hK K; refine hK _ _ ?_; clear hK K; apply sR; intro K hK; (iterate 3 (refine qr ?_)); refine s_nil (hK _ _ ?_); clear hK K; apply AWp_ret)
      exact ⟨_, _, snap_tup hR hE, h⟩
theorem numB_eq (o : Option J) (b : Bool) : numB o b = (b || !tellB o) := by
  cases o with
  | none => simp [numB, tellB]
  | some v => cases b <;> simp [numB, tellB]
theorem namesB_eq (p : List UInt8 → Bool) : ∀ (l : List (List UInt8 × J)) (b : Bool), namesB p b l = (b || !(l.all fun x => levelB x.2 && p x.1))
  | [], b => by simp [namesB]
  | x :: l, b => by
    show namesB p (if (if b = true then true else !levelB x.2) = true then true else !p x.1) l = _
    rw [namesB_eq p l, List.all_cons]
    generalize (l.all fun x => levelB x.2 && p x.1) = c
    generalize levelB x.2 = d
    generalize p x.1 = e
    revert b c d e
    decide
theorem namesBad_eq (p : List UInt8 → Bool) (o : Option J) (b : Bool) : namesBad p o b = (b || !nameOk p o) := by
  cases o with
  | none => simp [namesBad, nameOk]
  | some v =>
    show namesB p (if b = true then true else !decide (v.kind = 5)) (v.keys.zip v.list) = (b || !(decide (v.kind = 5) && _))
    rw [namesB_eq]
    generalize (v.keys.zip v.list).all (fun x => levelB x.2 && p x.1) = c
    generalize decide (v.kind = 5) = d
    revert b c d
    decide
theorem ord_kind (v : J) : v.ord.kind = v.kind := by
  rw [ord_eq]; split
  · rename_i h; rw [h]; rfl
  · rfl
theorem ord_int (v : J) : v.ord.int = v.int := by
  rw [ord_eq]; split <;> rfl
theorem tellB_ord (o : Option J) : tellB (o.map J.ord) = tellB o := by
  cases o with
  | none => rfl
  | some v => simp only [Option.map_some, tellB, levelB, ord_kind, ord_int]
theorem numR_ord (o : Option J) (n : Int) : numR (o.map J.ord) n = numR o n := by
  cases o with
  | none => rfl
  | some v => simp only [Option.map_some, numR, ord_int]
def docOk (j : J) : Bool := tellB (jGet j ([98, 97, 110] : List UInt8)) && tellB (jGet j ([107, 105, 99, 107] : List UInt8)) && tellB (jGet j ([105, 110, 118, 105, 116, 101] : List UInt8)) && tellB (jGet j ([114, 101, 100, 97, 99, 116] : List UInt8)) &&
  tellB (jGet j ([115, 116, 97, 116, 101, 95, 100, 101, 102, 97, 117, 108, 116] : List UInt8)) && tellB (jGet j ([101, 118, 101, 110, 116, 115, 95, 100, 101, 102, 97, 117, 108, 116] : List UInt8)) && tellB (jGet j ([117, 115, 101, 114, 115, 95, 100, 101, 102, 97, 117, 108, 116] : List UInt8)) &&
  nameOk isUserB ((jGet j ([117, 115, 101, 114, 115] : List UInt8)).map J.ord) && nameOk isType ((jGet j ([101, 118, 101, 110, 116, 115] : List UInt8)).map J.ord)
def docLv (j : J) : Lv := ⟨numR (jGet j ([98, 97, 110] : List UInt8)) 50, numR (jGet j ([107, 105, 99, 107] : List UInt8)) 50, numR (jGet j ([105, 110, 118, 105, 116, 101] : List UInt8)) 0, numR (jGet j ([114, 101, 100, 97, 99, 116] : List UInt8)) 50,
  numR (jGet j ([115, 116, 97, 116, 101, 95, 100, 101, 102, 97, 117, 108, 116] : List UInt8)) 50, numR (jGet j ([101, 118, 101, 110, 116, 115, 95, 100, 101, 102, 97, 117, 108, 116] : List UInt8)) 0, numR (jGet j ([117, 115, 101, 114, 115, 95, 100, 101, 102, 97, 117, 108, 116] : List UInt8)) 0,
  namesR ((jGet j ([117, 115, 101, 114, 115] : List UInt8)).map J.ord), namesR ((jGet j ([101, 118, 101, 110, 116, 115] : List UInt8)).map J.ord)⟩
theorem lvParse_doc {c : J} (h5 : c.kind = 5) (hg : goodB 12 c = true) : lvParse c = if docOk c = true then some (docLv c) else none := by
  rw [lvParse_look h5 hg]
  unfold lvOf
  simp only [numB_eq, namesBad_eq, tellB_ord, numR_ord]
  unfold docOk docLv
  generalize tellB (jGet c ([98, 97, 110] : List UInt8)) = t1
  generalize tellB (jGet c ([107, 105, 99, 107] : List UInt8)) = t2
  generalize tellB (jGet c ([105, 110, 118, 105, 116, 101] : List UInt8)) = t3
  generalize tellB (jGet c ([114, 101, 100, 97, 99, 116] : List UInt8)) = t4
  generalize tellB (jGet c ([115, 116, 97, 116, 101, 95, 100, 101, 102, 97, 117, 108, 116] : List UInt8)) = t5
  generalize tellB (jGet c ([101, 118, 101, 110, 116, 115, 95, 100, 101, 102, 97, 117, 108, 116] : List UInt8)) = t6
  generalize tellB (jGet c ([117, 115, 101, 114, 115, 95, 100, 101, 102, 97, 117, 108, 116] : List UInt8)) = t7
  generalize nameOk isUserB ((jGet c ([117, 115, 101, 114, 115] : List UInt8)).map J.ord) = t8
  generalize nameOk isType ((jGet c ([101, 118, 101, 110, 116, 115] : List UInt8)).map J.ord) = t9
  have e : (false || !t1 || !t2 || !t3 || !t4 || !t5 || !t6 || !t7 || !t8 || !t9) = !(t1 && t2 && t3 && t4 && t5 && t6 && t7 && t8 && t9) := by revert t1 t2 t3 t4 t5 t6 t7 t8 t9; decide
  rw [e]
  cases (t1 && t2 && t3 && t4 && t5 && t6 && t7 && t8 && t9) <;> rfl
theorem jGet_mem {j v : J} {k : List UInt8} (h : jGet j k = some v) : v ∈ j.list := by
  rw [jGet] at h
  split at h
  · rw [Option.map_eq_some_iff] at h
    obtain ⟨p, hp, rfl⟩ := h
    exact (List.of_mem_zip (List.mem_of_find?_eq_some hp)).2
  · cases h
theorem good_mono : ∀ {n : Nat} {j : J}, goodB n j = true → goodB (n + 1) j = true := fun {n} => by
  induction n with
  | zero => intro j h; cases h
  | succ n ih =>
    intro j h
    rw [goodB] at h ⊢
    simp only [Bool.and_eq_true, List.all_eq_true] at h ⊢
    exact ⟨h.1, fun x hx => ih (h.2 x hx)⟩
set_option maxHeartbeats 4000000 in
theorem rparse_c (j : J) (hf : J.Fit j) (H : AHeap) (Kc : AV → AHeap → Prop) (h : Kc (lvRes (lvParse j)) H) : ACall X 40 [.agg j.cells] H Kc := by
  refine ACall.post ?_
  have hcl : j.keys.length ≤ 9223372036854775807 ∧ j.list.length ≤ 9223372036854775807 := by have := (fit_eq.1 hf).1; omega
  rw [J.cells_eq]
  refine ACall_intro Tryz.func40 rfl (by kernel_rfl) (by rw [Tryz.ntmps40]; simp) ?_; rw [Tryz.ntmps40]; simp only [frame0, Nat.reduceAdd]
  apply sR; intro K hK
  apply s_box; decide; exact (by simp only [go_sem]; try rfl); exact (by simp only [go_sem]; try rfl); intro p hp
  apply s_alloc; decide; exact zc_levels; intro r hr
  (refine qr ?_; refine s_nil (hK _ _ ?_); clear hK K; apply sK; intro K hK; apply sR; intro K hK; refine qr ?_)
  generalize hgenq : AHeap.put p _ H = M1 at hr ⊢; obtain ⟨g1, hextq⟩ := gen_ex hgenq hp; have hE := hextq; clear hextq hgenq
  have hHr : H.get r = none := none_of_ext hE hr
  generalize hgenq : AHeap.put r _ M1 = M; obtain ⟨g2, hextq⟩ := gen_ex hgenq hr; have g1 := hextq _ _ g1; have hE := Ext.trans hE hextq; clear hextq hgenq
  ((iterate 3 (apply s_q; decide; rfl; (simp only [go_sem, g1]; rfl))); apply s_spec; decide; rfl; rfl; (iterate 4 (simp only [go_sem, g1]; rfl)); trivial; apply s_gpure; decide; (iterate 3 (simp only [go_sem, g1]; rfl)); simp [condsOk]; (iterate 2 (simp only [go_sem, g1]; rfl)); (refine ACall.args_eq (bs := [.agg j.cells]) ?_ ?_; (focus (rw [J.cells_eq j]; done)); apply rGood_c j _ _ hf; exact ⟨rfl, rfl⟩); apply s_spec; decide; rfl; rfl; (iterate 4 (simp only [go_sem, g1]; rfl)); simp [condsOk]; apply s_pick; decide; (iterate 6 (simp only [go_sem, g1]; rfl)); trivial; trivial; simp [condsOk]; refine s_nil (hK _ _ ?_); clear hK K)
  refine cs (fun hc => ?_) (fun hc => ?_)
  · have hn : lvParse j = none := by
      rw [lvParse]
      by_cases h5 : j.kind = 5
      · rw [if_pos h5, if_neg (by simpa [h5] using hc)]
      · rw [if_neg h5]
    rw [hn] at h
    (apply sR; intro K hK; apply s_q; decide; rfl; (simp only [go_sem, zc_levels, g2]; rfl); apply s_store; (iterate 3 (simp only [go_sem, zc_levels, g2]; rfl)); apply s_q; decide; rfl; (simp only [go_sem, zc_levels, g2]; rfl); refine s_nil (hK _ _ ?_); clear hK K; apply AWp_ret)
    try simp only [AThen, ABlock]
    refine end_ret (av := .tup [.agg [.v (.int .i64 0), .v (.int .i64 0), .v (.int .i64 0), .v (.int .i64 0), .v (.int .i64 0), .v (.int .i64 0), .v (.int .i64 0), .sl true [], .sl true []], .v (.int .i64 1)]) (by show resAV X.P _ _ [.cell 2 58, .tmp 3] = _; simp only [go_sem]; try rfl) ⟨_, _, Snap.trans Snap.loosen (Snap.drop (hE.over hHr)), h⟩
  have hc' : j.kind = 5 ∧ goodB 12 j = true := by
    by_cases h5 : j.kind = 5
    · refine ⟨h5, ?_⟩; simpa [h5] using hc
    · simp [h5] at hc
  obtain ⟨h5, hg⟩ := hc'
  rw [lvParse_doc h5 hg] at h
  have hv : ∀ k v, jGet j k = some v → goodB 12 v = true ∧ J.Fit v := fun k v hkv => by
    have hm := jGet_mem hkv
    refine ⟨?_, (fit_eq.1 hf).2.2.2 v hm⟩
    rw [goodB] at hg
    simp only [Bool.and_eq_true, List.all_eq_true] at hg
    exact good_mono (hg.2 v hm)
  refine AWp_skip (hK _ _ ?_); clear hK K
  apply sR; intro K hK
  apply s_alloc; decide; exact zc_levels; intro l hl
  refine s_nil (hK _ _ ?_); clear hK K
  have hpl := get_ne_fresh g1 hl
  have hrl := get_ne_fresh g2 hl
  have hHl : H.get l = none := none_of_ext hE hl
  generalize hgenq : AHeap.put l _ M = M2; obtain ⟨g3, hextq⟩ := gen_ex hgenq hl; have g1 := hextq _ _ g1; have g2 := hextq _ _ g2; have hE := Ext.trans hE hextq; clear hextq hgenq
  have g1l : ∀ x, (M2.put l x).get p = some (jbox j.kind j.int j.text (.sl false (j.keys.map strCells)) (.sl false (j.list.map J.cells))) := fun x => get_other g1 hpl
  have hT : ∀ (key : List UInt8) (n : Int) (H : AHeap) (K : AV → AHeap → Prop), K (.tup [.v (.int .i64 (numR (jGet j key) n)), .v (.bool (tellB (jGet j key)))]) H → ACall X 72 [.agg [.v (.int .i64 j.kind), .v (.int .i64 j.int), .s j.text, .sl false (j.keys.map strCells), .sl false (j.list.map J.cells)], .s key, .v (.int .i64 n)] H K := fun key n H K hk => by
    rw [← J.cells_eq]; exact told_c j hcl key n H K hk
  have hN : ∀ (key : List UInt8) (user : Bool) (H : AHeap) (K : AV → AHeap → Prop), K (.tup [.sl false ((if nameOk (if user = true then isUserB else isType) ((jGet j key).map J.ord) = true then namesR ((jGet j key).map J.ord) else []).map nmCells), .v (.bool (nameOk (if user = true then isUserB else isType) ((jGet j key).map J.ord)))]) H →
      ACall X 73 [.agg [.v (.int .i64 j.kind), .v (.int .i64 j.int), .s j.text, .sl false (j.keys.map strCells), .sl false (j.list.map J.cells)], .s key, .v (.bool user)] H K := fun key user H K hk => by
    rw [← J.cells_eq]; exact rnamed_c j hcl key user (hv key) H K hk
  (apply sR; intro K hK; (iterate 9 (apply s_q; decide; rfl; (simp only [go_sem, g1, g3, g1l]; rfl))); refine s_nil (hK _ _ ?_); clear hK K; apply sR; intro K hK; apply s_q; decide; rfl; (simp only [go_sem, g1, g3, g1l]; rfl); apply s_call; decide; (iterate 2 (simp only [go_sem, g1, g3, g1l]; rfl)); apply hT; (iterate 4 (apply s_q; decide; rfl; (simp only [go_sem, g1, g3, g1l]; rfl))); apply s_store; (iterate 3 (simp only [go_sem, g1, g3, g1l]; rfl)); apply s_q; decide; rfl; (simp only [go_sem, g1, g3, g1l]; rfl); refine s_nil (hK _ _ ?_); clear hK K; apply sR; intro K hK; apply s_q; decide; rfl; (simp only [go_sem, g1, g3, g1l]; rfl); apply s_call; decide; (iterate 2 (simp only [go_sem, g1, g3, g1l]; rfl)); apply hT; (iterate 4 (apply s_q; decide; rfl; (simp only [go_sem, g1, g3, g1l]; rfl))); apply s_store; (iterate 3 (simp only [go_sem, g1, g3, g1l]; rfl)); apply s_q; decide; rfl; (simp only [go_sem, g1, g3, g1l]; rfl); refine s_nil (hK _ _ ?_); clear hK K; apply sR; intro K hK; apply s_q; decide; rfl; (simp only [go_sem, g1, g3, g1l]; rfl); apply s_call; decide; (iterate 2 (simp only [go_sem, g1, g3, g1l]; rfl)); apply hT; (iterate 4 (apply s_q; decide; rfl; (simp only [go_sem, g1, g3, g1l]; rfl))); apply s_store; (iterate 3 (simp only [go_sem, g1, g3, g1l]; rfl)); apply s_q; decide; rfl; (simp only [go_sem, g1, g3, g1l]; rfl); refine s_nil (hK _ _ ?_); clear hK K; apply sR; intro K hK; apply s_q; decide; rfl; (simp only [go_sem, g1, g3, g1l]; rfl); apply s_call; decide; (iterate 2 (simp only [go_sem, g1, g3, g1l]; rfl)); apply hT; (iterate 4 (apply s_q; decide; rfl; (simp only [go_sem, g1, g3, g1l]; rfl))); apply s_store; (iterate 3 (simp only [go_sem, g1, g3, g1l]; rfl)); apply s_q; decide; rfl; (simp only [go_sem, g1, g3, g1l]; rfl); refine s_nil (hK _ _ ?_); clear hK K; apply sR; intro K hK; apply s_q; decide; rfl; (simp only [go_sem, g1, g3, g1l]; rfl); apply s_call; decide; (iterate 2 (simp only [go_sem, g1, g3, g1l]; rfl)); apply hT; (iterate 4 (apply s_q; decide; rfl; (simp only [go_sem, g1, g3, g1l]; rfl))); apply s_store; (iterate 3 (simp only [go_sem, g1, g3, g1l]; rfl)); apply s_q; decide; rfl; (simp only [go_sem, g1, g3, g1l]; rfl); refine s_nil (hK _ _ ?_); clear hK K; apply sR; intro K hK; apply s_q; decide; rfl; (simp only [go_sem, g1, g3, g1l]; rfl); apply s_call; decide; (iterate 2 (simp only [go_sem, g1, g3, g1l]; rfl)); apply hT; (iterate 4 (apply s_q; decide; rfl; (simp only [go_sem, g1, g3, g1l]; rfl))); apply s_store; (iterate 3 (simp only [go_sem, g1, g3, g1l]; rfl)); apply s_q; decide; rfl; (simp only [go_sem, g1, g3, g1l]; rfl); refine s_nil (hK _ _ ?_); clear hK K; apply sR; intro K hK; apply s_q; decide; rfl; (simp only [go_sem, g1, g3, g1l]; rfl); apply s_call; decide; (iterate 2 (simp only [go_sem, g1, g3, g1l]; rfl)); apply hT; (iterate 4 (apply s_q; decide; rfl; (simp only [go_sem, g1, g3, g1l]; rfl))); apply s_store; (iterate 3 (simp only [go_sem, g1, g3, g1l]; rfl)); apply s_q; decide; rfl; (simp only [go_sem, g1, g3, g1l]; rfl); refine s_nil (hK _ _ ?_); clear hK K; apply sR; intro K hK; apply s_q; decide; rfl; (simp only [go_sem, g1, g3, g1l]; rfl); apply s_call; decide; (iterate 2 (simp only [go_sem, g1, g3, g1l]; rfl)); apply hN; (iterate 4 (apply s_q; decide; rfl; (simp only [go_sem, g1, g3, g1l]; rfl))); apply s_store; (iterate 3 (simp only [go_sem, g1, g3, g1l]; rfl)); apply s_q; decide; rfl; (simp only [go_sem, g1, g3, g1l]; rfl); refine s_nil (hK _ _ ?_); clear hK K; apply sR; intro K hK; apply s_q; decide; rfl; (simp only [go_sem, g1, g3, g1l]; rfl); apply s_call; decide; (iterate 2 (simp only [go_sem, g1, g3, g1l]; rfl)); apply hN; (iterate 4 (apply s_q; decide; rfl; (simp only [go_sem, g1, g3, g1l]; rfl))); apply s_store; (iterate 3 (simp only [go_sem, g1, g3, g1l]; rfl)); apply s_q; decide; rfl; (simp only [go_sem, g1, g3, g1l]; rfl); refine s_nil (hK _ _ ?_); clear hK K; apply sK; intro K hK; apply sR; intro K hK; (iterate 3 (apply s_q; decide; rfl; (simp only [go_sem, g1, g3, g1l]; rfl))); apply s_spec; decide; rfl; rfl; (iterate 4 (simp only [go_sem, g1, g3, g1l]; rfl)); trivial; apply s_spec; decide; rfl; rfl; (iterate 4 (simp only [go_sem, g1, g3, g1l]; rfl)); simp [condsOk]; apply s_pick; decide; (iterate 6 (simp only [go_sem, g1, g3, g1l]; rfl)); trivial; trivial; simp [condsOk]; apply s_q; decide; rfl; (simp only [go_sem, g1, g3, g1l]; rfl); apply s_spec; decide; rfl; rfl; (iterate 4 (simp only [go_sem, g1, g3, g1l]; rfl)); trivial; apply s_spec; decide; rfl; rfl; (iterate 4 (simp only [go_sem, g1, g3, g1l]; rfl)); simp [condsOk]; apply s_pick; decide; (iterate 6 (simp only [go_sem, g1, g3, g1l]; rfl)); trivial; trivial; simp [condsOk]; apply s_q; decide; rfl; (simp only [go_sem, g1, g3, g1l]; rfl); apply s_spec; decide; rfl; rfl; (iterate 4 (simp only [go_sem, g1, g3, g1l]; rfl)); trivial; apply s_spec; decide; rfl; rfl; (iterate 4 (simp only [go_sem, g1, g3, g1l]; rfl)); simp [condsOk]; apply s_pick; decide; (iterate 6 (simp only [go_sem, g1, g3, g1l]; rfl)); trivial; trivial; simp [condsOk]; apply s_q; decide; rfl; (simp only [go_sem, g1, g3, g1l]; rfl); apply s_spec; decide; rfl; rfl; (iterate 4 (simp only [go_sem, g1, g3, g1l]; rfl)); trivial; apply s_spec; decide; rfl; rfl; (iterate 4 (simp only [go_sem, g1, g3, g1l]; rfl)); simp [condsOk]; apply s_pick; decide; (iterate 6 (simp only [go_sem, g1, g3, g1l]; rfl)); trivial; trivial; simp [condsOk]; apply s_q; decide; rfl; (simp only [go_sem, g1, g3, g1l]; rfl); apply s_spec; decide; rfl; rfl; (iterate 4 (simp only [go_sem, g1, g3, g1l]; rfl)); trivial; apply s_spec; decide; rfl; rfl; (iterate 4 (simp only [go_sem, g1, g3, g1l]; rfl)); simp [condsOk]; apply s_pick; decide; (iterate 6 (simp only [go_sem, g1, g3, g1l]; rfl)); trivial; trivial; simp [condsOk]; apply s_q; decide; rfl; (simp only [go_sem, g1, g3, g1l]; rfl); apply s_spec; decide; rfl; rfl; (iterate 4 (simp only [go_sem, g1, g3, g1l]; rfl)); trivial; apply s_spec; decide; rfl; rfl; (iterate 4 (simp only [go_sem, g1, g3, g1l]; rfl)); simp [condsOk]; apply s_pick; decide; (iterate 6 (simp only [go_sem, g1, g3, g1l]; rfl)); trivial; trivial; simp [condsOk]; apply s_q; decide; rfl; (simp only [go_sem, g1, g3, g1l]; rfl); apply s_spec; decide; rfl; rfl; (iterate 4 (simp only [go_sem, g1, g3, g1l]; rfl)); trivial; apply s_spec; decide; rfl; rfl; (iterate 4 (simp only [go_sem, g1, g3, g1l]; rfl)); simp [condsOk]; apply s_pick; decide; (iterate 6 (simp only [go_sem, g1, g3, g1l]; rfl)); trivial; trivial; simp [condsOk]; apply s_q; decide; rfl; (simp only [go_sem, g1, g3, g1l]; rfl); apply s_spec; decide; rfl; rfl; (iterate 4 (simp only [go_sem, g1, g3, g1l]; rfl)); trivial; apply s_spec; decide; rfl; rfl; (iterate 4 (simp only [go_sem, g1, g3, g1l]; rfl)); simp [condsOk]; apply s_pick; decide; (iterate 6 (simp only [go_sem, g1, g3, g1l]; rfl)); trivial; trivial; simp [condsOk]; refine s_nil (hK _ _ ?_); clear hK K)
  have e9 : ∀ b1 b2 b3 b4 b5 b6 b7 b8 b9 : Bool, (if (if (if (if (if (if (if (if (!b1) = true then true else !b2) = true then true else !b3) = true then true else !b4) = true then true else !b5) = true then true else !b6) = true then true else !b7) = true then true else !b8) = true then true else !b9) = !(b1 && b2 && b3 && b4 && b5 && b6 && b7 && b8 && b9) := by decide
  have g2l : ∀ x, (M2.put l x).get r = some lvz := fun x => get_other g2 hrl
  refine cs (fun hd => ?_) (fun hd => ?_)
  · have hd := (e9 _ _ _ _ _ _ _ _ _).symm.trans hd
    have hb : docOk j = false := by
      have : (!docOk j) = true := hd
      simpa using this
    rw [hb] at h
    (apply sR; intro K hK; apply s_q; decide; rfl; (simp only [go_sem, zc_levels, g2l]; rfl); apply s_store; (iterate 3 (simp only [go_sem, zc_levels, g2l]; rfl)); apply s_q; decide; rfl; (simp only [go_sem, zc_levels, g2l]; rfl); refine s_nil (hK _ _ ?_); clear hK K; apply AWp_ret)
    try simp only [AThen, ABlock]
    refine end_ret (av := .tup [.agg [.v (.int .i64 0), .v (.int .i64 0), .v (.int .i64 0), .v (.int .i64 0), .v (.int .i64 0), .v (.int .i64 0), .v (.int .i64 0), .sl true [], .sl true []], .v (.int .i64 1)]) (by show resAV X.P _ _ [.cell 2 58, .tmp 3] = _; simp only [go_sem]; try rfl) ⟨_, _, Snap.trans Snap.loosen (Snap.drop ((hE.over hHl).over hHr)), h⟩
  · have hd := (e9 _ _ _ _ _ _ _ _ _).symm.trans hd
    have hb : docOk j = true := by
      have : (!docOk j) = false := hd
      simpa using this
    rw [if_pos hb] at h
    have n9 : nameOk isType ((jGet j ([101, 118, 101, 110, 116, 115] : List UInt8)).map J.ord) = true := by
      rw [docOk] at hb; simp only [Bool.and_eq_true] at hb; exact hb.2
    have n8 : nameOk isUserB ((jGet j ([117, 115, 101, 114, 115] : List UInt8)).map J.ord) = true := by
      rw [docOk] at hb; simp only [Bool.and_eq_true] at hb; exact hb.1.2
    (refine AWp_skip (hK _ _ ?_); clear hK K; apply sR; intro K hK; apply s_q; decide; rfl; (simp only [go_sem, g2l]; rfl); apply s_store; (iterate 3 (simp only [go_sem, g2l]; rfl)); apply s_q; decide; rfl; (simp only [go_sem, g2l]; rfl); refine s_nil (hK _ _ ?_); clear hK K; apply AWp_ret)
    try simp only [AThen, ABlock]
    refine end_ret (by show resAV X.P _ _ [.cell 2 58, .tmp 3] = _; simp only [go_sem]; try rfl) ⟨_, _, Snap.drop ((hE.over hHl).over hHr), ?_⟩
    simp only [reduceIte, Bool.false_eq_true, n8, n9]
    exact h

abbrev lvcells (ban kick inv red st ev us : Int) (u t : AV) : List AV := [.v (.int .i64 ban), .v (.int .i64 kick), .v (.int .i64 inv), .v (.int .i64 red), .v (.int .i64 st), .v (.int .i64 ev), .v (.int .i64 us), u, t]
abbrev stCells (s : List UInt8) : List AV := lvcells 50 50 0 50 0 0 0 (.sl false [[.s s, .v (.int .i64 100)]]) (.sl false [])
theorem start_c (s : List UInt8) (H : AHeap) (K : AV → AHeap → Prop) (h : K (.agg (stCells s)) H) : ACall X 70 [.s s] H K := by
  refine ACall.drop (ACall.loose ?_)
  refine ACall_intro Tryz.func70 rfl (by kernel_rfl) (by rw [Tryz.ntmps70]; simp) ?_; rw [Tryz.ntmps70]; simp only [frame0, Nat.reduceAdd]
  (apply sR; intro K hK; apply s_alloc; decide; exact zc_58; intro b hb; refine s_nil (hK _ _ ?_); clear hK K; apply sR; intro K hK; (iterate 2 (apply s_q; decide; rfl; (simp only [go_sem, zc_levels]; rfl))); apply s_lit; decide; exact el_56; (iterate 2 (simp only [go_sem, zc_levels]; rfl)); decide; apply s_q; decide; rfl; (simp only [go_sem, zc_levels]; rfl); apply s_store; (iterate 3 (simp only [go_sem, zc_levels]; rfl)); refine s_nil (hK _ _ ?_); clear hK K; apply AWp_ret)
  refine end_ret (av := .agg (lvcells 50 50 0 50 0 0 0 (.sl true [[.s s, .v (.int .i64 100)]]) (.sl true []))) (by show resAV X.P _ _ [.cell 2 58] = _; simp only [go_sem]; try rfl) ⟨H, Ext.fresh (by assumption), ?_⟩
  exact h
theorem rstart_c (s : List UInt8) (H : AHeap) (K : AV → AHeap → Prop) (h : K (.agg (stCells s)) H) : ACall X 42 [.s s] H K := by
  refine ACall.drop (ACall.loose ?_)
  refine ACall_intro Tryz.func42 rfl (by kernel_rfl) (by rw [Tryz.ntmps42]; simp) ?_; rw [Tryz.ntmps42]; simp only [frame0, Nat.reduceAdd]
  (apply sR; intro K hK; apply s_alloc; decide; exact zc_58; intro b hb; refine s_nil (hK _ _ ?_); clear hK K; apply sR; intro K hK; (iterate 2 (apply s_q; decide; rfl; (simp only [go_sem, zc_levels]; rfl))); apply s_lit; decide; exact el_56; (iterate 2 (simp only [go_sem, zc_levels]; rfl)); decide; apply s_q; decide; rfl; (simp only [go_sem, zc_levels]; rfl); apply s_store; (iterate 3 (simp only [go_sem, zc_levels]; rfl)); refine s_nil (hK _ _ ?_); clear hK K; apply AWp_ret)
  refine end_ret (av := .agg (lvcells 50 50 0 50 0 0 0 (.sl true [[.s s, .v (.int .i64 100)]]) (.sl true []))) (by show resAV X.P _ _ [.cell 2 58] = _; simp only [go_sem]; try rfl) ⟨H, Ext.fresh (by assumption), ?_⟩
  exact h
theorem parse_some {c : J} {L : Lv} (h : lvParse c = some L) : c.kind = 5 ∧ goodB 12 c = true := by
  unfold lvParse at h
  split at h
  · rename_i h5
    split at h
    · rename_i hg; exact ⟨h5, hg⟩
    · cases h
  · cases h
theorem names_len {j : J} (hf : J.Fit j) (k : List UInt8) : (namesR ((jGet j k).map J.ord)).length ≤ 1000000000 := by
  cases ho : jGet j k with
  | none => simp [namesR]
  | some v =>
    have hv := (fit_eq.1 ((fit_eq.1 hf).2.2.2 v (jGet_mem ho))).1
    have hl : v.ord.keys.length ≤ 1000000000 := by
      rw [ord_eq]; split
      · simp only [J.keys, List.length_map, places_len]; exact hv.1
      · simp [J.keys]
    simp only [Option.map_some, namesR, namesL, List.length_map, List.length_zip]
    omega
theorem parse_len {j : J} (hf : J.Fit j) {l : Lv} (h : lvParse j = some l) : l.Len := by
  obtain ⟨h5, hg⟩ := parse_some h
  rw [lvParse_doc h5 hg] at h
  split at h
  · cases h
    exact ⟨names_len hf _, names_len hf _⟩
  · cases h
theorem lvRes_eq (o : Option Lv) : ∃ (l : Lv) (e : Int), lvRes o = .tup [.agg l.cells, .v (.int .i64 e)] ∧ (e = 0 → o = some l) ∧ (¬ e = 0 → o = none ∧ l = lv0) := by
  cases o with
  | none => exact ⟨lv0, 1, rfl, (fun h => by omega), fun _ => ⟨rfl, rfl⟩⟩
  | some l => exact ⟨l, 0, rfl, fun _ => rfl, fun h => absurd rfl h⟩
theorem start_len (s : List UInt8) : (lvStart s).Len := by simp [lvStart, Lv.Len]
def levN (p : Pa) (i : Nat) : Int := if 0 ≤ leanI p i tPower then (match lvParse (evAt p (leanI p i tPower)).content with | none => 0 | some l => l.user (evAt p i).sender) else if 0 ≤ leanI p i tCreate then (lvStart (evAt p (leanI p i tCreate)).sender).user (evAt p i).sender else 0
def levA (p : Pa) (i : Int) : Int := if (rightB p && inR p.events.length i) = true then levN p i.toNat else 0
abbrev paCells (p : Pa) : List AV := [.sl false (p.names.map strCells), .sl false (p.events.map Ev.cells), .sl false (p.prev.map rowCells), .sl false (p.auth.map rowCells), .sl false (p.denied.map bolCells)]
abbrev jCells (j : J) : List AV := [.v (.int .i64 j.kind), .v (.int .i64 j.int), .s j.text, .sl false (j.keys.map strCells), .sl false (j.list.map J.cells)]
theorem ev_of {p : Pa} {i : Nat} {e : Ev} (h : p.events[i]? = some e) : evAt p i = e := by rw [evAt, Int.toNat_natCast]; exact getD_some h
set_option maxHeartbeats 4000000 in
theorem lev_c (p : Pa) (hw : p.Wide) (hr : p.Right) (hsm : ∀ e ∈ p.events, Sml e.content) (i : Nat) (hi : i < p.events.length) (H : AHeap) (K : AV → AHeap → Prop) (h : K (.v (.int .i64 (levN p i))) H) : ACall X 38 [.agg p.cells, .v (.int .i64 i)] H K := by
  have w2 := hw.ev
  obtain ⟨e, he⟩ := gete hi
  have hge := ev_at he
  have hev := ev_of he
  rw [levN, hev] at h
  have hF : ∀ (kind : List UInt8) (H : AHeap) (K : AV → AHeap → Prop), K (.v (.int .i64 (leanI p i kind))) H → ACall X 67 [.agg (paCells p), .v (.int .i64 i), .s kind] H K := fun kind H K hK => first_c p hw hr i hi kind H K hK
  refine ACall.drop ?_
  rw [Pa.cells]
  refine ACall_intro Tryz.func38 rfl (by kernel_rfl) (by rw [Tryz.ntmps38]; simp) ?_; rw [Tryz.ntmps38]; simp only [frame0, Nat.reduceAdd]
  apply sR; intro K hK
  apply s_box; decide; exact (by simp only [go_sem]; try rfl); exact (by simp only [go_sem]; try rfl); intro q hq
  generalize hgenq : AHeap.put q _ H = M; obtain ⟨g1, hextq⟩ := gen_ex hgenq hq; have hE := hextq; clear hextq hgenq
  (apply s_q; decide; rfl; (simp only [go_sem, g1, hge]; rfl); refine s_nil (hK _ _ ?_); clear hK K; apply sR; intro K hK; (iterate 7 (apply s_q; decide; rfl; (simp only [go_sem, g1, hge]; rfl))); refine s_nil (hK _ _ ?_); clear hK K; apply sK; intro K hK; apply sR; intro K hK; (iterate 2 (apply s_q; decide; rfl; (simp only [go_sem, g1, hge]; rfl))); apply s_call; decide; (iterate 2 (simp only [go_sem, g1, hge]; rfl)); apply hF tPower; apply s_q; decide; rfl; (simp only [go_sem, g1, hge]; rfl); refine s_nil (hK _ _ ?_); clear hK K; apply sR; intro K hK; (iterate 2 (apply s_q; decide; rfl; (simp only [go_sem, g1, hge]; rfl))); refine s_nil (hK _ _ ?_); clear hK K)
  rcases leanI_lt hr (i := i) (kind := tPower) with e1 | ⟨n, e1, hn, _⟩
  · rw [e1] at h ⊢
    rw [if_neg (by decide)] at h
    refine cs (fun hc => ?_) (fun hc => ?_)
    · cases hc
    (refine AWp_skip (hK _ _ ?_); clear hK K; apply sK; intro K hK; apply sR; intro K hK; (iterate 2 (apply s_q; decide; rfl; (simp only [go_sem, g1]; rfl))); apply s_call; decide; (iterate 2 (simp only [go_sem, g1]; rfl)); apply hF tCreate; apply s_q; decide; rfl; (simp only [go_sem, g1]; rfl); refine s_nil (hK _ _ ?_); clear hK K; apply sR; intro K hK; (iterate 2 (apply s_q; decide; rfl; (simp only [go_sem, g1]; rfl))); refine s_nil (hK _ _ ?_); clear hK K)
    rcases leanI_lt hr (i := i) (kind := tCreate) with e2 | ⟨m, e2, hm, _⟩
    · rw [e2] at h ⊢
      rw [if_neg (by decide)] at h
      refine cs (fun hc => ?_) (fun hc => ?_)
      · cases hc
      (refine AWp_skip (hK _ _ ?_); clear hK K; apply sR; intro K hK; refine qr ?_; refine s_nil (hK _ _ ?_); clear hK K; apply AWp_ret)
      exact ⟨H, hE, h⟩
    · rw [e2] at h ⊢
      rw [if_pos (by omega)] at h
      obtain ⟨c, hcm⟩ := gete (l := p.events) (i := m) (by omega)
      have hgc := ev_at hcm
      rw [ev_of hcm] at h
      refine cs (fun hc => ?_) (fun hc => ?_)
      rotate_left
      · simp at hc <;> omega
      have hU : ∀ (H : AHeap) (K : AV → AHeap → Prop), K (.v (.int .i64 ((lvStart c.sender).user e.sender))) H → ACall X 69 [.agg (stCells c.sender), .s e.sender] H K := fun H K hk => puser_c (lvStart c.sender) (start_len _) _ H K hk
      (apply sR; intro K hK; (iterate 6 (apply s_q; decide; rfl; (simp only [go_sem, g1, hgc]; rfl))); apply s_call; decide; (iterate 2 (simp only [go_sem, g1, hgc]; rfl)); apply start_c; apply s_q; decide; rfl; (simp only [go_sem, g1, hgc]; rfl); apply s_call; decide; (iterate 2 (simp only [go_sem, g1, hgc]; rfl)); apply hU; apply s_q; decide; rfl; (simp only [go_sem, g1, hgc]; rfl); refine s_nil (hK _ _ ?_); clear hK K; apply AWp_ret; simp only [AThen, ABlock]; apply end_ret; rfl; simp only [AFr.get, reduceIte, Nat.reduceEqDiff])
      exact ⟨H, hE, h⟩
  · rw [e1] at h ⊢
    rw [if_pos (by omega)] at h
    obtain ⟨c, hcm⟩ := gete (l := p.events) (i := n) (by omega)
    have hgc := ev_at hcm
    rw [ev_of hcm] at h
    have hsc := hsm c (List.mem_of_getElem? hcm)
    obtain ⟨L, er, hl1, hl2, hl3⟩ := lvRes_eq (lvParse c.content)
    have hP : ∀ (H : AHeap) (K : AV → AHeap → Prop), K (.tup [.agg L.cells, .v (.int .i64 er)]) H → ACall X 68 [.agg (jCells c.content)] H K := fun H K hk => by
      have := parse_c c.content hsc.fit hsc.short H K (by rw [hl1]; exact hk)
      rwa [J.cells_eq] at this
    refine cs (fun hc => ?_) (fun hc => ?_)
    rotate_left
    · simp at hc <;> omega
    rw [Lv.cells] at hP
    (apply sR; intro K hK; (iterate 6 (apply s_q; decide; rfl; (simp only [go_sem, g1, hgc]; rfl))); apply s_call; decide; (iterate 2 (simp only [go_sem, g1, hgc]; rfl)); apply hP; (iterate 3 (apply s_q; decide; rfl; (simp only [go_sem, g1, hgc]; rfl))); apply s_alloc; decide; exact zc_58; intro b hb; apply s_store; (iterate 3 (simp only [go_sem, g1, hgc]; rfl)); apply s_q; decide; rfl; (simp only [go_sem, g1, hgc]; rfl); refine s_nil (hK _ _ ?_); clear hK K; apply sK; intro K hK; apply sR; intro K hK; (iterate 2 (apply s_q; decide; rfl; (simp only [go_sem, g1, hgc]; rfl))); refine s_nil (hK _ _ ?_); clear hK K)
    obtain ⟨lb, hnewq⟩ : ∃ q, q = b := ⟨_, rfl⟩; have hlb := hb; rw [← hnewq] at hlb ⊢; clear hb hnewq; try clear he; clear b
    generalize hgenq : AHeap.put lb _ M = M2; obtain ⟨gl, hextq⟩ := gen_ex hgenq hlb; have g1 := hextq _ _ g1; have hE := Ext.trans hE hextq; clear hextq hgenq
    skip
    refine cs (fun hz => ?_) (fun hz => ?_)
    · have hz : ¬ er = 0 := by simpa using hz
      rw [(hl3 hz).1] at h
      (apply sR; intro K hK; refine qr ?_; refine s_nil (hK _ _ ?_); clear hK K; apply AWp_ret; simp only [AThen, ABlock]; apply end_ret; rfl; simp only [AFr.get, reduceIte, Nat.reduceEqDiff])
      exact ⟨H, by assumption, h⟩
    · have hz : er = 0 := by simpa using hz
      have hpl := hl2 hz
      rw [hpl] at h
      have hU : ∀ (H : AHeap) (K : AV → AHeap → Prop), K (.v (.int .i64 (L.user e.sender))) H → ACall X 69 [.agg [.v (.int .i64 L.ban), .v (.int .i64 L.kick), .v (.int .i64 L.invite), .v (.int .i64 L.redact), .v (.int .i64 L.state), .v (.int .i64 L.events), .v (.int .i64 L.users), .sl false (L.byUser.map nmCells), .sl false (L.byType.map nmCells)], .s e.sender] H K := fun H K hk => puser_c L (parse_len hsc.fit hpl) _ H K hk
      (refine AWp_skip (hK _ _ ?_); clear hK K; apply sR; intro K hK; (iterate 2 (apply s_q; decide; rfl; (simp only [go_sem, gl]; rfl))); apply s_call; decide; (iterate 2 (simp only [go_sem, gl]; rfl)); apply hU; apply s_q; decide; rfl; (simp only [go_sem, gl]; rfl); refine s_nil (hK _ _ ?_); clear hK K; apply AWp_ret; simp only [AThen, ABlock]; apply end_ret; rfl; simp only [AFr.get, reduceIte, Nat.reduceEqDiff])
      exact ⟨H, by assumption, h⟩
set_option maxHeartbeats 4000000 in
theorem level12_c (p : Pa) (hw : p.Wide) (hsm : ∀ e ∈ p.events, Sml e.content) (i : Int) (H : AHeap) (K : AV → AHeap → Prop) (h : K (.v (.int .i64 (levA p i))) H) : ACall X 16 [.agg p.cells, .v (.int .i64 i)] H K := by
  refine ACall.drop ?_
  have hR : ∀ (H : AHeap) (K : AV → AHeap → Prop), K (.v (.bool (rightB p))) H → ACall X 25 [.agg (paCells p)] H K := fun H K hK => right_c p hw H K hK
  have hT : ∀ (H : AHeap) (K : AV → AHeap → Prop), K (.v (.bool (inR p.events.length i))) H → ACall X 37 [.agg (paCells p), .v (.int .i64 i)] H K := fun H K hK => there_c p hw i H K hK
  rw [levA] at h
  rw [Pa.cells]
  refine ACall_intro Tryz.func16 rfl (by kernel_rfl) (by rw [Tryz.ntmps16]; simp) ?_; rw [Tryz.ntmps16]; simp only [frame0, Nat.reduceAdd]
  apply sR; intro K hK
  apply s_box; decide; exact (by simp only [go_sem]; try rfl); exact (by simp only [go_sem]; try rfl); intro q hq
  generalize hgenq : AHeap.put q _ H = M; obtain ⟨g1, hextq⟩ := gen_ex hgenq hq; have hE := hextq; clear hextq hgenq
  (apply s_q; decide; rfl; (simp only [go_sem, g1]; rfl); refine s_nil (hK _ _ ?_); clear hK K; apply sK; intro K hK; apply sR; intro K hK; apply s_q; decide; rfl; (simp only [go_sem, g1]; rfl); apply s_call; decide; (iterate 2 (simp only [go_sem, g1]; rfl)); apply hR; (iterate 2 (apply s_q; decide; rfl; (simp only [go_sem, g1]; rfl))); (iterate 2 (apply s_spec; decide; rfl; rfl; (iterate 4 (simp only [go_sem, g1]; rfl)); trivial)); apply s_gpure; decide; (iterate 3 (simp only [go_sem, g1]; rfl)); simp [condsOk]; (iterate 2 (simp only [go_sem, g1]; rfl)); (apply hT; exact ⟨rfl, rfl⟩); apply s_spec; decide; rfl; rfl; (iterate 4 (simp only [go_sem, g1]; rfl)); simp [condsOk]; apply s_pick; decide; (iterate 6 (simp only [go_sem, g1]; rfl)); trivial; trivial; simp [condsOk]; refine s_nil (hK _ _ ?_); clear hK K)
  refine cs (fun hc => ?_) (fun hc => ?_)
  · rw [if_neg (by revert hc; cases rightB p <;> simp)] at h
    (apply sR; intro K hK; refine qr ?_; refine s_nil (hK _ _ ?_); clear hK K; apply AWp_ret; simp only [AThen, ABlock]; apply end_ret; rfl; simp only [AFr.get, reduceIte, Nat.reduceEqDiff])
    exact ⟨H, hE, h⟩
  · have hb : rightB p = true ∧ inR p.events.length i = true := by revert hc; cases rightB p <;> simp
    rw [hb.1, hb.2] at h
    have hin : 0 ≤ i ∧ i < p.events.length := by simpa [inR] using hb.2
    obtain ⟨n, rfl⟩ : ∃ n : Nat, i = n := ⟨i.toNat, by omega⟩
    have hL : ∀ (H : AHeap) (K : AV → AHeap → Prop), K (.v (.int .i64 (levN p n))) H → ACall X 38 [.agg (paCells p), .v (.int .i64 n)] H K := fun H K hK => lev_c p hw (right_true hb.1) hsm n (by omega) H K hK
    (refine AWp_skip (hK _ _ ?_); clear hK K; apply sR; intro K hK; (iterate 2 (apply s_q; decide; rfl; (simp only [go_sem, g1]; rfl))); apply s_call; decide; (iterate 2 (simp only [go_sem, g1]; rfl)); apply hL; apply s_q; decide; rfl; (simp only [go_sem, g1]; rfl); refine s_nil (hK _ _ ?_); clear hK K; apply AWp_ret)
    exact ⟨H, hE, h⟩
set_option maxHeartbeats 4000000 in
theorem rlevel12_c (p : Pa) (hw : p.Wide) (hsm : ∀ e ∈ p.events, Sml e.content) (i : Int) (H : AHeap) (K : AV → AHeap → Prop) (h : K (.v (.int .i64 (levA p i))) H) : ACall X 17 [.agg p.cells, .v (.int .i64 i)] H K := by
  have w2 := hw.ev
  refine ACall.drop ?_
  have hR : ∀ (H : AHeap) (K : AV → AHeap → Prop), K (.v (.bool (rightB p))) H → ACall X 26 [.agg (paCells p)] H K := fun H K hK => rright_c p hw H K hK
  rw [levA] at h
  rw [Pa.cells]
  refine ACall_intro Tryz.func17 rfl (by kernel_rfl) (by rw [Tryz.ntmps17]; simp) ?_; rw [Tryz.ntmps17]; simp only [frame0, Nat.reduceAdd]
  apply sR; intro K hK
  apply s_box; decide; exact (by simp only [go_sem]; try rfl); exact (by simp only [go_sem]; try rfl); intro q hq
  generalize hgenq : AHeap.put q _ H = M; obtain ⟨g1, hextq⟩ := gen_ex hgenq hq; have hE := hextq; clear hextq hgenq
  (apply s_q; decide; rfl; (simp only [go_sem, g1]; rfl); refine s_nil (hK _ _ ?_); clear hK K; apply sK; intro K hK; apply sR; intro K hK; apply s_q; decide; rfl; (simp only [go_sem, g1]; rfl); apply s_call; decide; (iterate 2 (simp only [go_sem, g1]; rfl)); apply hR; (iterate 2 (apply s_q; decide; rfl; (simp only [go_sem, g1]; rfl))); apply s_spec; decide; rfl; rfl; (iterate 4 (simp only [go_sem, g1]; rfl)); trivial; apply s_spec; decide; rfl; rfl; (iterate 4 (simp only [go_sem, g1]; rfl)); simp [condsOk]; apply s_pick; decide; (iterate 6 (simp only [go_sem, g1]; rfl)); trivial; trivial; simp [condsOk]; apply s_q; decide; rfl; (simp only [go_sem, g1]; rfl); (iterate 2 (apply s_spec; decide; rfl; rfl; (iterate 4 (simp only [go_sem, g1]; rfl)); trivial)); (iterate 3 (apply s_spec; decide; rfl; rfl; (iterate 4 (simp only [go_sem, g1]; rfl)); simp [condsOk])); apply s_pick; decide; (iterate 6 (simp only [go_sem, g1]; rfl)); trivial; trivial; simp [condsOk]; refine s_nil (hK _ _ ?_); clear hK K)
  refine cs (fun hc => ?_) (fun hc => ?_)
  · rw [if_neg (by
      revert hc
      rw [inR]
      cases rightB p <;> simp <;> omega)] at h
    (apply sR; intro K hK; refine qr ?_; refine s_nil (hK _ _ ?_); clear hK K; apply AWp_ret; simp only [AThen, ABlock]; apply end_ret; rfl; simp only [AFr.get, reduceIte, Nat.reduceEqDiff])
    exact ⟨H, hE, h⟩
  have hb : rightB p = true ∧ 0 ≤ i ∧ i < p.events.length := by
    revert hc
    cases rightB p <;> simp
  obtain ⟨hrb, hi0, hi1⟩ := hb
  have hr := right_true hrb
  obtain ⟨i, rfl⟩ : ∃ n : Nat, i = n := ⟨i.toNat, by omega⟩
  have hi : i < p.events.length := by omega
  rw [hrb, show inR p.events.length (i : Int) = true by simp [inR]; omega] at h
  simp only [Bool.and_self, if_true, Int.toNat_natCast] at h
  obtain ⟨e, he⟩ := gete hi
  have hge := ev_at he
  have hev := ev_of he
  rw [levN, hev] at h
  have hF : ∀ (kind : List UInt8) (H : AHeap) (K : AV → AHeap → Prop), K (.v (.int .i64 (leanI p i kind))) H → ACall X 39 [.agg (paCells p), .v (.int .i64 i), .s kind] H K := fun kind H K hK => leans_c p hw hr i hi kind H K hK
  (refine AWp_skip (hK _ _ ?_); clear hK K; apply sR; intro K hK; (iterate 2 (apply s_q; decide; rfl; (simp only [go_sem, g1, hge]; rfl))); apply s_call; decide; (iterate 2 (simp only [go_sem, g1, hge]; rfl)); apply hF tPower; apply s_q; decide; rfl; (simp only [go_sem, g1, hge]; rfl); refine s_nil (hK _ _ ?_); clear hK K; apply sK; intro K hK; apply sR; intro K hK; (iterate 2 (apply s_q; decide; rfl; (simp only [go_sem, g1, hge]; rfl))); refine s_nil (hK _ _ ?_); clear hK K)
  rcases leanI_lt hr (i := i) (kind := tPower) with e1 | ⟨n, e1, hn, _⟩
  · rw [e1] at h ⊢
    rw [if_neg (by decide)] at h
    refine cs (fun hc2 => ?_) (fun hc2 => ?_)
    · cases hc2
    (refine AWp_skip (hK _ _ ?_); clear hK K; apply sR; intro K hK; (iterate 2 (apply s_q; decide; rfl; (simp only [go_sem, g1]; rfl))); apply s_call; decide; (iterate 2 (simp only [go_sem, g1]; rfl)); apply hF tCreate; apply s_q; decide; rfl; (simp only [go_sem, g1]; rfl); refine s_nil (hK _ _ ?_); clear hK K; apply sK; intro K hK; apply sR; intro K hK; (iterate 2 (apply s_q; decide; rfl; (simp only [go_sem, g1]; rfl))); refine s_nil (hK _ _ ?_); clear hK K)
    rcases leanI_lt hr (i := i) (kind := tCreate) with e2 | ⟨m, e2, hm, _⟩
    · rw [e2] at h ⊢
      rw [if_neg (by decide)] at h
      refine cs (fun hc2 => ?_) (fun hc2 => ?_)
      rotate_left
      · cases hc2
      (apply sR; intro K hK; refine qr ?_; refine s_nil (hK _ _ ?_); clear hK K; apply AWp_ret; simp only [AThen, ABlock]; apply end_ret; rfl; simp only [AFr.get, reduceIte, Nat.reduceEqDiff])
      exact ⟨H, hE, h⟩
    · rw [e2] at h ⊢
      rw [if_pos (by omega)] at h
      obtain ⟨c, hcm⟩ := gete (l := p.events) (i := m) (by omega)
      have hgc := ev_at hcm
      rw [ev_of hcm] at h
      refine cs (fun hc2 => ?_) (fun hc2 => ?_)
      · simp at hc2 <;> omega
      have hU : ∀ (H : AHeap) (K : AV → AHeap → Prop), K (.v (.int .i64 ((lvStart c.sender).user e.sender))) H → ACall X 41 [.agg (stCells c.sender), .s e.sender] H K := fun H K hk => ruser_c (lvStart c.sender) (start_len _) _ H K hk
      (refine AWp_skip (hK _ _ ?_); clear hK K; apply sK; intro K hK)
      apply AWp_drawA [0, 1, 2, 3, 4, 5, 6, 7, 8, 9, 10, 11, 12, 13, 14] [] 0 (by exact mixed); kernel_rfl; (iterate 2 (simp only [go_sem]; rfl))
      ((iterate 6 (apply e_q; decide; (simp only [go_sem, g1, hgc, hge]; rfl))); apply e_call; decide; (iterate 2 (simp only [go_sem, g1, hgc, hge]; rfl)); (apply rstart_c; exact ⟨rfl, rfl⟩); (iterate 6 (apply e_q; decide; (simp only [go_sem, g1, hgc, hge]; rfl))); apply e_call; decide; (iterate 2 (simp only [go_sem, g1, hgc, hge]; rfl)); (apply hU; exact ⟨rfl, rfl⟩); apply e_q; decide; (simp only [go_sem, g1, hgc, hge]; rfl); apply e_nil; refine t_nil (hK _ _ ?_); clear hK K; apply AWp_ret)
      exact ⟨H, hE, h⟩
  · rw [e1] at h ⊢
    rw [if_pos (by omega)] at h
    obtain ⟨c, hcm⟩ := gete (l := p.events) (i := n) (by omega)
    have hgc := ev_at hcm
    rw [ev_of hcm] at h
    have hsc := hsm c (List.mem_of_getElem? hcm)
    obtain ⟨L, er, hl1, hl2, hl3⟩ := lvRes_eq (lvParse c.content)
    have hP : ∀ (H : AHeap) (K : AV → AHeap → Prop), K (.tup [.agg L.cells, .v (.int .i64 er)]) H → ACall X 40 [.agg (jCells c.content)] H K := fun H K hk => by
      have := rparse_c c.content hsc.fit H K (by rw [hl1]; exact hk)
      rwa [J.cells_eq] at this
    refine cs (fun hc2 => ?_) (fun hc2 => ?_)
    rotate_left
    · simp at hc2 <;> omega
    rw [Lv.cells] at hP
    (apply sR; intro K hK; (iterate 6 (apply s_q; decide; rfl; (simp only [go_sem, g1, hgc]; rfl))); apply s_call; decide; (iterate 2 (simp only [go_sem, g1, hgc]; rfl)); apply hP; (iterate 3 (apply s_q; decide; rfl; (simp only [go_sem, g1, hgc]; rfl))); apply s_alloc; decide; exact zc_58; intro b hb; apply s_store; (iterate 3 (simp only [go_sem, g1, hgc]; rfl)); apply s_q; decide; rfl; (simp only [go_sem, g1, hgc]; rfl); refine s_nil (hK _ _ ?_); clear hK K; apply sK; intro K hK; apply sR; intro K hK; (iterate 2 (apply s_q; decide; rfl; (simp only [go_sem, g1, hgc]; rfl))); refine s_nil (hK _ _ ?_); clear hK K)
    obtain ⟨lb, hnewq⟩ : ∃ q, q = b := ⟨_, rfl⟩; have hlb := hb; rw [← hnewq] at hlb ⊢; clear hb hnewq; try clear he; clear b
    generalize hgenq : AHeap.put lb _ M = M2; obtain ⟨gl, hextq⟩ := gen_ex hgenq hlb; have g1 := hextq _ _ g1; have hE := Ext.trans hE hextq; clear hextq hgenq
    skip
    refine cs (fun hz => ?_) (fun hz => ?_)
    · have hz : ¬ er = 0 := by simpa using hz
      rw [(hl3 hz).1] at h
      (apply sR; intro K hK; refine qr ?_; refine s_nil (hK _ _ ?_); clear hK K; apply AWp_ret; simp only [AThen, ABlock]; apply end_ret; rfl; simp only [AFr.get, reduceIte, Nat.reduceEqDiff])
      exact ⟨H, by assumption, h⟩
    · have hz : er = 0 := by simpa using hz
      have hpl := hl2 hz
      rw [hpl] at h
      have hU : ∀ (H : AHeap) (K : AV → AHeap → Prop), K (.v (.int .i64 (L.user e.sender))) H → ACall X 41 [.agg [.v (.int .i64 L.ban), .v (.int .i64 L.kick), .v (.int .i64 L.invite), .v (.int .i64 L.redact), .v (.int .i64 L.state), .v (.int .i64 L.events), .v (.int .i64 L.users), .sl false (L.byUser.map nmCells), .sl false (L.byType.map nmCells)], .s e.sender] H K := fun H K hk => ruser_c L (parse_len hsc.fit hpl) _ H K hk
      (refine AWp_skip (hK _ _ ?_); clear hK K; apply sK; intro K hK)
      apply AWp_drawA [0, 1, 2, 3, 4, 5, 6, 7, 8] [] 0 (by exact mixed); kernel_rfl; (iterate 2 (simp only [go_sem]; rfl))
      ((iterate 7 (apply e_q; decide; (simp only [go_sem, g1, gl, hge]; rfl))); apply e_call; decide; (iterate 2 (simp only [go_sem, g1, gl, hge]; rfl)); (apply hU; exact ⟨rfl, rfl⟩); apply e_q; decide; (simp only [go_sem, g1, gl, hge]; rfl); apply e_nil; refine t_nil (hK _ _ ?_); clear hK K; apply AWp_ret; simp only [AThen, ABlock]; apply end_ret; rfl; simp only [AFr.get, reduceIte, Nat.reduceEqDiff])
      exact ⟨H, by assumption, h⟩

def idxS (k : List UInt8) (l : List (List UInt8)) : Int := match l.findIdx? (fun x => decide (x = k)) with | some i => i | none => -1
theorem idxS_at {k : List UInt8} {l : List (List UInt8)} {i : Nat} (h : l[i]? = some k) (hb : ∀ x ∈ l.take i, x ≠ k) : idxS k l = i := by
  have : l.findIdx? (fun x => decide (x = k)) = some i := by
    obtain ⟨hi, he⟩ := List.getElem?_eq_some_iff.1 h
    rw [List.findIdx?_eq_some_iff_getElem]
    refine ⟨hi, by simp [he], fun j hj => ?_⟩
    have := hb l[j] (List.mem_take_iff_getElem.2 ⟨j, by omega, rfl⟩)
    simpa using this
  rw [idxS, this]
theorem idxS_none {k : List UInt8} {l : List (List UInt8)} (hb : ∀ x ∈ l, x ≠ k) : idxS k l = -1 := by
  have : l.findIdx? (fun x => decide (x = k)) = none := by
    rw [List.findIdx?_eq_none_iff]
    intro x hx; simpa using hb x hx
  rw [idxS, this]
theorem indexS_c (t : Bool) (l : List (List UInt8)) (k : List UInt8) (hl : l.length ≤ 4611686018427387904) (H : AHeap) (K : AV → AHeap → Prop) (h : K (.v (.int .i64 (idxS k l))) H) : ACall X 65 [.sl t (l.map strCells), .s k] H K := by
  refine ACall_intro Tryz.func65 rfl (by kernel_rfl) (by rw [Tryz.ntmps65]; simp) ?_; rw [Tryz.ntmps65]; simp only [frame0, Nat.reduceAdd]
  (apply sR; intro K hK; refine qr ?_; refine s_nil (hK _ _ ?_); clear hK K; apply sK; intro K hK; apply sR; intro K hK; (iterate 3 (refine qr ?_)); refine s_nil (hK _ _ ?_); clear hK K; apply AWp_block)
  refine AWp_loop_s (σ := Nat) [0, 1, 7, 8] (fun i => [.sl t (l.map strCells), .s k, .v (.int .i64 l.length), .v (.int .i64 i)]) (fun _ => H) (fun i => l.length - i) (fun i => i ≤ l.length ∧ ∀ x ∈ l.take i, x ≠ k) 0 ⟨Nat.zero_le _, by simp⟩ rfl rfl (fun i hi => ?_)
  simp only [List.zip_cons_cons, List.zip_nil_right]
  (apply sR; intro K hK; refine qr ?_; refine s_nil (hK _ _ ?_); clear hK K; apply sK; intro K hK)
  refine cs (fun hc => ?_) (fun hc => ?_)
  · have hlt : i < l.length := by simpa using hc
    obtain ⟨a, hm⟩ : ∃ a, l[i]? = some a := ⟨_, List.getElem?_eq_getElem hlt⟩
    have hg : (l.map strCells)[i]? = some [.s a] := by rw [List.getElem?_map, hm]; rfl
    (refine AWp_skip (hK _ _ ?_); clear hK K; apply sK; intro K hK; apply AWp_block; apply sR; intro K hK; (iterate 2 (apply s_q; decide; rfl; (simp only [go_sem, hg]; rfl))); refine s_nil (hK _ _ ?_); clear hK K; apply sR; intro K hK; (iterate 6 (apply s_q; decide; rfl; (simp only [go_sem, hg]; rfl))); refine s_nil (hK _ _ ?_); clear hK K)
    refine cs (fun hd => ?_) (fun hd => ?_)
    · have hk : a = k := by simp at hd; exact hd.symm
      subst hk
      (apply sR; intro K hK; (iterate 2 (refine qr ?_)); refine s_nil (hK _ _ ?_); clear hK K; apply AWp_ret; simp only [AThen, ABlock]; apply end_ret; rfl; simp only [AFr.get, reduceIte, Nat.reduceEqDiff])
      exact finI h (idxS_at hm hi.2).symm
    · have hk : a ≠ k := fun e => by simp [e] at hd
      (refine AWp_skip (hK _ _ ?_); clear hK K; apply s_region; (iterate 2 (refine qr ?_)); apply s_nil; simp only [AThen, ABlock])
      refine ⟨i + 1, by omega, ⟨by omega, ?_⟩, ?_, by trivial⟩
      · rw [List.take_add_one, hm]
        intro x hx
        rw [List.mem_append] at hx
        rcases hx with hx | hx
        · exact hi.2 x hx
        · simp at hx; subst hx; exact hk
      · simp only [getAll, List.map_cons, List.map_nil, AFr.get]
        rw [wrapS hlt (by omega)]; rfl
  · have hge : l.length ≤ i := by simpa using hc
    (apply AWp_exit; simp only [AThen, ABlock, reduceIte, Nat.reduceEqDiff]; clear hK K; refine hK _ _ ?_; clear hK K; apply sR; intro K hK; refine qr ?_; refine s_nil (hK _ _ ?_); clear hK K; apply AWp_ret)
    exact finI h (idxS_none (fun x hx => hi.2 x (by rw [List.take_of_length_le hge]; exact hx))).symm
theorem zip_find {k : List UInt8} : ∀ (l : List (List UInt8)) (m : List J), ((l.zip m).find? fun p => decide (p.1 = k)).map (·.2) = match l.findIdx? (fun x => decide (x = k)) with | some i => m[i]? | none => none
  | [], m => by simp
  | a :: l, [] => by
    simp only [List.zip_nil_right, List.find?_nil, Option.map_none]
    split <;> simp
  | a :: l, b :: m => by
    rw [List.zip_cons_cons, List.find?_cons, List.findIdx?_cons]
    by_cases h : a = k
    · simp [h]
    · simp only [h, decide_false, Bool.false_eq_true, ite_false]
      rw [zip_find l m]
      cases l.findIdx? (fun x => decide (x = k)) <;> simp
def kMem : List UInt8 := [109, 101, 109, 98, 101, 114, 115, 104, 105, 112]
def memT (c : J) : List UInt8 := match jGet c kMem with | some v => if v.kind = 3 then v.text else [] | none => []
theorem memT_at {c : J} {i : Nat} {v : J} (hk : c.kind = 5) (h : idxS kMem c.keys = i) (hv : c.list[i]? = some v) : memT c = if v.kind = 3 then v.text else [] := by
  rw [memT, jGet, if_pos hk, zip_find]
  unfold idxS at h
  split at h
  · rename_i j hj
    obtain rfl : j = i := by omega
    simp only [hv]
  · omega
theorem memT_no {c : J} (h : ¬ (0 ≤ idxS kMem c.keys ∧ idxS kMem c.keys < c.list.length)) : memT c = [] := by
  rw [memT, jGet]
  split
  · rename_i v hv
    split at hv
    · rw [zip_find] at hv
      unfold idxS at h
      split at h
      · rename_i j hj
        rw [hj] at hv
        have := (List.getElem?_eq_some_iff.1 hv).1
        omega
      · rename_i hj
        rw [hj] at hv; cases hv
    · cases hv
  · rfl
theorem memT_kind {c : J} (h : c.kind ≠ 5) : memT c = [] := by rw [memT, jGet, if_neg h]
theorem idxS_cases (k : List UInt8) (l : List (List UInt8)) : idxS k l = -1 ∨ ∃ i : Nat, idxS k l = i := by
  unfold idxS
  split
  · exact .inr ⟨_, rfl⟩
  · exact .inl rfl
theorem finS {K : AV → AHeap → Prop} {H : AHeap} {a b : List UInt8} (h : K (.s a) H) (e : b = a) : K (.s b) H := e ▸ h
theorem mship_c (e : Ev) (hw : e.Wide) (H : AHeap) (K : AV → AHeap → Prop) (h : K (.s (memT e.content)) H) : ACall X 33 [.agg e.cells] H K := by
  obtain ⟨l1, l2, l3⟩ := J.len_eq.1 hw.1
  have hI : ∀ (H : AHeap) (K : AV → AHeap → Prop), K (.v (.int .i64 (idxS kMem e.content.keys))) H → ACall X 65 [.sl false (e.content.keys.map strCells), .s kMem] H K := fun H K hk => indexS_c false _ _ (by omega) H K hk
  refine ACall.drop ?_
  rw [Ev.cells]
  refine ACall_intro Tryz.func33 rfl (by kernel_rfl) (by rw [Tryz.ntmps33]; simp) ?_; rw [Tryz.ntmps33]; simp only [frame0, Nat.reduceAdd]
  apply sR; intro K hK
  apply s_box; decide; exact (by simp only [go_sem]; try rfl); exact (by simp only [go_sem]; try rfl); intro p hp
  generalize hgenq : AHeap.put p _ H = M; obtain ⟨g1, hextq⟩ := gen_ex hgenq hp; have hE := hextq; clear hextq hgenq
  (apply s_q; decide; rfl; (simp only [go_sem, g1]; rfl); refine s_nil (hK _ _ ?_); clear hK K; apply sR; intro K hK; (iterate 3 (apply s_q; decide; rfl; (simp only [go_sem, g1]; rfl))); apply s_call; decide; (iterate 2 (simp only [go_sem, g1]; rfl)); apply hI; apply s_q; decide; rfl; (simp only [go_sem, g1]; rfl); refine s_nil (hK _ _ ?_); clear hK K; apply sK; intro K hK; apply sR; intro K hK; (iterate 5 (apply s_q; decide; rfl; (simp only [go_sem, g1]; rfl))); apply s_spec; decide; rfl; rfl; (iterate 4 (simp only [go_sem, g1]; rfl)); trivial; apply s_spec; decide; rfl; rfl; (iterate 4 (simp only [go_sem, g1]; rfl)); simp [condsOk]; apply s_pick; decide; (iterate 6 (simp only [go_sem, g1]; rfl)); trivial; trivial; simp [condsOk]; apply s_q; decide; rfl; (simp only [go_sem, g1]; rfl); (iterate 2 (apply s_spec; decide; rfl; rfl; (iterate 4 (simp only [go_sem, g1]; rfl)); trivial)); (iterate 4 (apply s_spec; decide; rfl; rfl; (iterate 4 (simp only [go_sem, g1]; rfl)); simp [condsOk])); apply s_pick; decide; (iterate 6 (simp only [go_sem, g1]; rfl)); trivial; trivial; simp [condsOk]; apply s_q; decide; rfl; (simp only [go_sem, g1]; rfl); apply s_spec; decide; rfl; rfl; (iterate 4 (simp only [go_sem, g1]; rfl)); trivial; (iterate 2 (apply s_spec; decide; rfl; rfl; (iterate 4 (simp only [go_sem, g1]; rfl)); simp [condsOk])); apply s_spec; decide; rfl; rfl; (iterate 4 (simp only [go_sem, g1]; rfl)); trivial)
  by_cases hin : 0 ≤ idxS kMem e.content.keys ∧ idxS kMem e.content.keys < e.content.list.length
  · rcases idxS_cases kMem e.content.keys with hi | ⟨i, hi⟩
    · omega
    rw [hi] at hin ⊢
    obtain ⟨v, hv⟩ := gete (l := e.content.list) (i := i) (by omega)
    have hgv := eget_at hv
    (apply s_when; decide; (iterate 3 (simp only [go_sem, g1, hgv]; rfl)); simp [condsOk]; (intro hg; (focus (simp only [go_sem, g1, hgv]; (try rfl); done))); (iterate 3 (apply s_spec; decide; rfl; rfl; (iterate 4 (simp only [go_sem, g1, hgv]; rfl)); simp [condsOk])); apply s_pick; decide; (iterate 6 (simp only [go_sem, g1, hgv]; rfl)); trivial; trivial; simp [condsOk]; refine s_nil (hK _ _ ?_); clear hK K)
    refine cs (fun hc => ?_) (fun hc => ?_)
    · (apply sR; intro K hK; refine qr ?_; refine s_nil (hK _ _ ?_); clear hK K; apply AWp_ret; simp only [AThen, ABlock]; apply end_ret; rfl; simp only [AFr.get, reduceIte, Nat.reduceEqDiff])
      refine ⟨H, hE, finS h ?_⟩
      by_cases hk : e.content.kind = 5
      · rw [memT_at hk hi hv, if_neg]
        intro h3
        simp [hk, h3] at hc
        omega
      · rw [memT_kind hk]
    · (refine AWp_skip (hK _ _ ?_); clear hK K; apply sR; intro K hK; (iterate 8 (apply s_q; decide; rfl; (simp only [go_sem, g1, hgv]; rfl))); refine s_nil (hK _ _ ?_); clear hK K; apply AWp_ret)
      refine ⟨H, hE, finS h ?_⟩
      have h5 : e.content.kind = 5 ∧ v.kind = 3 := by
        by_cases hk : e.content.kind = 5 <;> by_cases h3 : v.kind = 3 <;> simp_all
      rw [memT_at h5.1 hi hv, if_pos h5.2]
  · rw [memT_no hin] at h
    generalize idxS kMem e.content.keys = i at hin
    ((iterate 4 (apply s_when (av := (.v (.bool false))); decide; (iterate 3 (simp only [go_sem, g1]; rfl)); simp [condsOk]; (focus (intro hg; first | (cases hg; done) | (simp at hg; done) | (simp at hg; omega))))); apply s_pick; decide; (iterate 6 (simp only [go_sem, g1]; rfl)); trivial; trivial; simp [condsOk]; refine s_nil (hK _ _ ?_); clear hK K)
    refine cs (fun hc => ?_) (fun hc => ?_)
    · (apply sR; intro K hK; refine qr ?_; refine s_nil (hK _ _ ?_); clear hK K; apply AWp_ret; simp only [AThen, ABlock]; apply end_ret; rfl; simp only [AFr.get, reduceIte, Nat.reduceEqDiff])
      exact ⟨H, hE, h⟩
    · exfalso
      simp at hc
      omega
def tMem : List UInt8 := [109, 46, 114, 111, 111, 109, 46, 109, 101, 109, 98, 101, 114]
def powB (e : Ev) : Bool := e.isState && if e.type = tMem then !decide (e.key = e.sender) && (decide (memT e.content = [108, 101, 97, 118, 101]) || decide (memT e.content = [98, 97, 110])) else decide (e.key = []) && (decide (e.type = tPower) || decide (e.type = [109, 46, 114, 111, 111, 109, 46, 106, 111, 105, 110, 95, 114, 117, 108, 101, 115]))
set_option maxHeartbeats 2000000 in
theorem powers_c (e : Ev) (hw : e.Wide) (H : AHeap) (K : AV → AHeap → Prop) (h : K (.v (.bool (powB e))) H) : ACall X 12 [.agg e.cells] H K := by
  have hM : ∀ (H : AHeap) (K : AV → AHeap → Prop), K (.s (memT e.content)) H → ACall X 33 [.agg e.cells] H K := fun H K hk => mship_c e hw H K hk
  refine ACall.drop ?_
  rw [Ev.cells] at hM ⊢
  refine ACall_intro Tryz.func12 rfl (by kernel_rfl) (by rw [Tryz.ntmps12]; simp) ?_; rw [Tryz.ntmps12]; simp only [frame0, Nat.reduceAdd]
  apply sR; intro K hK
  apply s_box; decide; exact (by simp only [go_sem]; try rfl); exact (by simp only [go_sem]; try rfl); intro p hp
  generalize hgenq : AHeap.put p _ H = M; obtain ⟨g1, hextq⟩ := gen_ex hgenq hp; have hE := hextq; clear hextq hgenq
  (apply s_q; decide; rfl; (simp only [go_sem, g1]; rfl); refine s_nil (hK _ _ ?_); clear hK K; apply sK; intro K hK; apply AWp_block; apply sR; intro K hK; (iterate 4 (apply s_q; decide; rfl; (simp only [go_sem, g1]; rfl))); refine s_nil (hK _ _ ?_); clear hK K)
  refine cs (fun hs => ?_) (fun hs => ?_)
  · (apply sR; intro K hK; refine qr ?_; refine s_nil (hK _ _ ?_); clear hK K; apply AWp_ret; simp only [AThen, ABlock]; apply end_ret; rfl; simp only [AFr.get, reduceIte, Nat.reduceEqDiff])
    refine ⟨H, hE, finB h ?_⟩
    simp at hs
    simp [powB, hs]
  have hs : e.isState = true := by simpa using hs
  (apply sR; intro K hK; (iterate 4 (apply s_q; decide; rfl; (simp only [go_sem, g1]; rfl))); refine s_nil (hK _ _ ?_); clear hK K)
  refine cs (fun ht => ?_) (fun ht => ?_)
  · have ht : e.type = tMem := by simpa [tMem] using ht
    (apply sR; intro K hK; apply s_q; decide; rfl; (simp only [go_sem, g1]; rfl); apply s_call; decide; (iterate 2 (simp only [go_sem, g1]; rfl)); apply hM; apply s_q; decide; rfl; (simp only [go_sem, g1]; rfl); refine s_nil (hK _ _ ?_); clear hK K; apply sR; intro K hK; (iterate 6 (apply s_q; decide; rfl; (simp only [go_sem, g1]; rfl))); apply s_spec; decide; rfl; rfl; (iterate 4 (simp only [go_sem, g1]; rfl)); trivial; (iterate 2 (apply s_spec; decide; rfl; rfl; (iterate 4 (simp only [go_sem, g1]; rfl)); simp [condsOk])); apply s_spec; decide; rfl; rfl; (iterate 4 (simp only [go_sem, g1]; rfl)); trivial; apply s_spec; decide; rfl; rfl; (iterate 4 (simp only [go_sem, g1]; rfl)); simp [condsOk]; apply s_pickg; decide; (iterate 8 (simp only [go_sem, g1]; rfl)); simp [condsOk]; trivial; simp [condsOk]; apply s_pick; decide; (iterate 6 (simp only [go_sem, g1]; rfl)); trivial; simp [condsOk]; trivial; apply s_q; decide; rfl; (simp only [go_sem, g1]; rfl); refine s_nil (hK _ _ ?_); clear hK K; apply AWp_ret; simp only [AThen, ABlock]; apply end_ret; rfl; simp only [AFr.get, reduceIte, Nat.reduceEqDiff])
    refine ⟨H, hE, finB h ?_⟩
    simp [powB, hs, ht]
  · have ht : ¬ e.type = tMem := by simpa [tMem] using ht
    (refine AWp_skip (hK _ _ ?_); clear hK K; apply sR; intro K hK; (iterate 4 (apply s_q; decide; rfl; (simp only [go_sem, g1]; rfl))); apply s_spec; decide; rfl; rfl; (iterate 4 (simp only [go_sem, g1]; rfl)); trivial; (iterate 3 (apply s_spec; decide; rfl; rfl; (iterate 4 (simp only [go_sem, g1]; rfl)); simp [condsOk])); apply s_spec; decide; rfl; rfl; (iterate 4 (simp only [go_sem, g1]; rfl)); trivial; (iterate 2 (apply s_spec; decide; rfl; rfl; (iterate 4 (simp only [go_sem, g1]; rfl)); simp [condsOk])); apply s_pickg; decide; (iterate 8 (simp only [go_sem, g1]; rfl)); simp [condsOk]; trivial; simp [condsOk]; apply s_pick; decide; (iterate 6 (simp only [go_sem, g1]; rfl)); trivial; simp [condsOk]; trivial; apply s_q; decide; rfl; (simp only [go_sem, g1]; rfl); refine s_nil (hK _ _ ?_); clear hK K; apply AWp_ret)
    refine ⟨H, hE, finB h ?_⟩
    simp only [powB, hs, if_neg ht, tPower, Bool.true_and]
    by_cases h1 : e.key = [] <;> simp [h1] <;> congr

def lineA (p : Pa) (i : Int) : List Int := if rightB p = true then lineP p i else []
theorem atI_mem {n : Int} {l : List Int} : 0 ≤ atI n l ↔ n ∈ l := by
  rw [atI]
  cases h : l.findIdx? (fun x => decide (x = n)) with
  | none =>
    rw [List.findIdx?_eq_none_iff] at h
    simp only
    constructor
    · intro h; omega
    · intro hm; have := h n hm; simp at this
  | some i =>
    rw [List.findIdx?_eq_some_iff_getElem] at h
    obtain ⟨hi, h1, _⟩ := h
    have h1 : l[i] = n := by simpa using h1
    simp only
    exact ⟨fun _ => h1 ▸ List.getElem_mem hi, fun _ => by omega⟩
def nearA (p : Pa) (line : List Int) (i : Int) : Int := match (lineA p i).find? (fun k => decide (k ∈ line)) with | some k => atI k line | none => line.length
set_option maxHeartbeats 4000000 in
theorem near_c (p : Pa) (hw : p.Wide) (hn : p.events.length ≤ 1000) (t : Bool) (line : List Int) (hl : line.length ≤ 1000) (i : Int) (H : AHeap) (Kc : AV → AHeap → Prop) (h : Kc (.v (.int .i64 (nearA p line i))) H) : ACall X 23 [.agg p.cells, .sl t (line.map intCells), .v (.int .i64 i)] H Kc := by
  refine ACall.drop ?_
  have hR : ∀ (H : AHeap) (K : AV → AHeap → Prop), K (.v (.bool (rightB p))) H → ACall X 25 [.agg [.sl false (p.names.map strCells), .sl false (p.events.map Ev.cells), .sl false (p.prev.map rowCells), .sl false (p.auth.map rowCells), .sl false (p.denied.map bolCells)]] H K := fun H K hK => right_c p hw H K hK
  have hBk : ∀ (H : AHeap) (K : AV → AHeap → Prop), (∀ q c, H.get q = none → (H.put q (paBox p)).get c = none → K (.fn (.func 93) [] [ptrTo q, ptrTo c]) ((H.put q (paBox p)).put c (ibox i))) → ACall X 57 [.agg [.sl false (p.names.map strCells), .sl false (p.events.map Ev.cells), .sl false (p.prev.map rowCells), .sl false (p.auth.map rowCells), .sl false (p.denied.map bolCells)], .v (.int .i64 i)] H K := fun H K hK => back_c p i H K hK
  rw [nearA] at h
  rw [Pa.cells]
  refine ACall_intro Tryz.func23 rfl (by kernel_rfl) (by rw [Tryz.ntmps23]; simp) ?_; rw [Tryz.ntmps23]; simp only [frame0, Nat.reduceAdd]
  apply sR; intro K hK
  apply s_box; decide; exact (by simp only [go_sem]; try rfl); exact (by simp only [go_sem]; try rfl); intro q hq
  generalize hgenq : AHeap.put q _ H = M; obtain ⟨g1, hextq⟩ := gen_ex hgenq hq; have hE := hextq; clear hextq hgenq
  apply s_box; decide; exact (by simp only [go_sem]; try rfl); exact (by simp only [go_sem]; try rfl); intro ln hln
  generalize hgenq : AHeap.put ln _ M = M1; obtain ⟨gl, hextq⟩ := gen_ex hgenq hln; have g1 := hextq _ _ g1; have hE := Ext.trans hE hextq; clear hextq hgenq
  apply s_alloc; decide; exact zc_3; intro rs hrs
  generalize hgenq : AHeap.put rs _ M1 = M2; obtain ⟨gr, hextq⟩ := gen_ex hgenq hrs; have g1 := hextq _ _ g1; have gl := hextq _ _ gl; have hE := Ext.trans hE hextq; clear hextq hgenq
  refine s_nil (hK _ _ ?_); clear hK K
  (apply sK; intro K hK; apply sR; intro K hK; apply s_q; decide; rfl; (simp only [go_sem, g1]; rfl); apply s_call; decide; (iterate 2 (simp only [go_sem, g1]; rfl)); apply hR; refine s_nil (hK _ _ ?_); clear hK K)
  refine cs (fun hc => ?_) (fun hc => ?_)
  rotate_left
  · have hc : rightB p = false := by simpa using hc
    have hno : lineA p i = [] := by rw [lineA, if_neg (by rw [hc]; decide)]
    rw [hno] at h
    (refine AWp_skip (hK _ _ ?_); clear hK K; apply sR; intro K hK; (iterate 2 (apply s_q; decide; rfl; (simp only [go_sem, gl, gr]; rfl))); apply s_store; (iterate 3 (simp only [go_sem, gl, gr]; rfl)); refine s_nil (hK _ _ ?_); clear hK K; apply AWp_ret)
    try simp only [AThen, ABlock]
    refine end_ret (by show resAV X.P _ _ [.cell 6 3] = _; simp only [go_sem]; try rfl) ⟨H, hE.over (none_of_ext (by assumption) hrs), h⟩
  have hc : rightB p = true := by simpa using hc
  have hr := right_true hc
  have hfin : lineA p i = lineP p i := by rw [lineA, if_pos hc]
  rw [hfin] at h
  have hHr : H.get rs = none := none_of_ext (by assumption) hrs
  have hrl : rs ≠ ln := by rintro rfl; rw [gr] at gl; cases gl
  (apply sR; intro K hK; (iterate 2 (apply s_q; decide; rfl; (simp only [go_sem, g1]; rfl))); apply s_call; decide; (iterate 2 (simp only [go_sem, g1]; rfl)); apply hBk; intro b c hb hc2; refine s_nil (hK _ _ ?_); clear hK K; apply AWp_block)
  have hcb : c ≠ b := by rintro rfl; rw [AHeap.get_put_same] at hc2; cases hc2
  have k1 := get_fresh (AHeap.get_put_same b (paBox p) M2) hc2 (x := ibox i)
  have k2 := AHeap.get_put_same c (ibox i) (M2.put b (paBox p))
  have k3 := (hE.put hb (ob := paBox p)).put hc2 (ob := ibox i)
  have hHb : H.get b = none := none_of_ext hE hb
  have hHc : H.get c = none := none_of_ext (hE.put hb (ob := paBox p)) hc2
  have kl := get_fresh (get_fresh gl hb (x := paBox p)) hc2 (x := ibox i)
  have kr := get_fresh (get_fresh gr hb (x := paBox p)) hc2 (x := ibox i)
  have hcr : c ≠ rs := by
    rintro rfl
    rw [get_fresh gr hb (x := paBox p)] at hc2; cases hc2
  generalize (M2.put b (paBox p)).put c (ibox i) = M3 at k1 k2 k3 kl kr ⊢
  clear g1 gl gr
  skip
  refine AWp_cut [4, 6, 13] (vs := [ptrTo ln, ptrTo rs, .fn (.func 93) [] [ptrTo b, ptrTo c]]) rfl ?_
  simp only [List.zip_cons_cons, List.zip_nil_right]
  apply AWp_rangeFunc; exact (by simp only [go_sem]; try rfl); intro y hy
  generalize hlo : AObj.loop 23 _ _ _ _ LoopState.ready none = lo
  have y1 := get_ne_fresh kl hy
  have y2 := get_ne_fresh k1 hy
  have y3 := get_ne_fresh k2 hy
  have y4 := get_ne_fresh kr hy
  have hHy : H.get y = none := none_of_ext k3 hy
  have hcl : c ≠ ln := by rintro rfl; rw [k2] at kl; cases kl
  have hbr : b ≠ rs := by rintro rfl; rw [k1] at kr; cases kr
  refine iterB_c p hw hr i y b c (fun n L => L.get y = some lo ∧ L.get b = some (paBox p) ∧ L.get ln = some (.box 38 [.sl t (line.map intCells)]) ∧ L.get rs = some (ibox 0) ∧ Ext H L ∧ ∀ x ∈ (lineP p i).take n, decide (x ∈ line) = false) _ (fun n L h => h.2.1) ?_ ?_ ?_ _ ?_ (get_fresh k2 hy)
  · rintro n L v ⟨g1, g2, g3, g4, g5, g6⟩
    exact ⟨by rw [AHeap.get_put, if_neg (Ne.symm y3)]; exact g1, by rw [AHeap.get_put, if_neg (Ne.symm hcb)]; exact g2, by rw [AHeap.get_put, if_neg (Ne.symm hcl)]; exact g3, by rw [AHeap.get_put, if_neg (Ne.symm hcr)]; exact g4, g5.over hHc, g6⟩
  · rintro n x L hx ⟨g1, g2, g3, g4, g5, g6⟩ gc
    rw [← hlo] at g1
    apply AYield_intro g1 rfl; decide
    simp only [putAll, List.toList_toArray]
    (apply s_region; apply s_q; (dsimp only; decide); rfl; (simp only [go_sem]; rfl); apply s_nil; simp only [AThen, ABlock])
    refine ⟨g1, ?_⟩
    generalize hlb : AObj.loop 23 _ _ _ _ LoopState.busy none = lb
    have c1 := AHeap.get_put_same y lb L
    have c2 : (L.put y lb).get b = some (paBox p) := by rw [AHeap.get_put, if_neg y2]; exact g2
    have c3 : (L.put y lb).get ln = some (.box 38 [.sl t (line.map intCells)]) := by rw [AHeap.get_put, if_neg y1]; exact g3
    have c4 : (L.put y lb).get rs = some (ibox 0) := by rw [AHeap.get_put, if_neg y4]; exact g4
    have c5 : (L.put y lb).get c = some (ibox x) := by rw [AHeap.get_put, if_neg y3]; exact gc
    have c6 := g5.over (o := lb) hHy
    generalize L.put y lb = N at c1 c2 c3 c4 c5 c6 ⊢
    (apply AWp_block; apply sR; intro K hK; (iterate 2 (apply s_q; (dsimp only; decide); rfl; (simp only [go_sem, c3]; rfl))); apply s_call; (dsimp only; decide); (iterate 2 (simp only [go_sem, c3]; rfl)); apply index_c t line x (by omega); apply s_q; (dsimp only; decide); rfl; (simp only [go_sem, c3]; rfl); refine s_nil (hK _ _ ?_); clear hK K; apply sR; intro K hK; (iterate 2 (apply s_q; (dsimp only; decide); rfl; (simp only [go_sem, c3]; rfl))); refine s_nil (hK _ _ ?_); clear hK K)
    refine cs (fun hz => ?_) (fun hz => ?_)
    · have hm : x ∈ line := atI_mem.1 (by simpa using hz)
      rw [find_first hx g6 (by simpa using hm)] at h
      (apply sR; intro K hK; apply s_q; (dsimp only; decide); rfl; (simp only [go_sem, c4]; rfl); apply s_store; (iterate 3 (simp only [go_sem, c4]; rfl)); refine s_nil (hK _ _ ?_); clear hK K; apply AWp_ret)
      simp only [ABlock, ARound]
      refine ⟨by rw [hlb, AHeap.get_put, if_neg (Ne.symm y4)]; exact c1, .inr ⟨by trivial, _, .done, some .ret, AHeap.get_put_same _ _ _, by simp, ?_⟩⟩
      have c7 : ∀ o, AHeap.get rs (AHeap.del y (AHeap.put y o (AHeap.put rs (ibox (atI x line)) N))) = some (ibox (atI x line)) := fun o => by
        rw [AHeap.get_del, if_neg y4, AHeap.get_put, if_neg y4, AHeap.get_put_same]
      (apply AWp_ret)
      try simp only [AThen, ABlock]
      refine end_ret (av := .v (.int .i64 (atI x line))) (by show resAV X.P _ _ [.cell 6 3] = _; simp only [go_sem, c7]; try rfl) ⟨H, ((c6.over hHr).over hHy).del hHy, h⟩
    · have hm : ¬ x ∈ line := fun h => by have := atI_mem.2 h; simp at hz; omega
      (apply AWp_skip; simp only [AThen, ABlock])
      simp only [ABlock, ARound]
      refine ⟨by rw [hlb]; exact c1, .inl ⟨by trivial, ⟨?_, ?_, ?_, ?_, ?_, ?_⟩, ?_⟩⟩
      · rw [AHeap.get_put_same, hlo]
      · rw [AHeap.get_put, if_neg y2]; exact c2
      · rw [AHeap.get_put, if_neg y1]; exact c3
      · rw [AHeap.get_put, if_neg y4]; exact c4
      · exact c6.over hHy
      · intro w hw3
        rcases take_mem_succ hx hw3 with h1 | rfl
        · exact g6 w h1
        · simpa using hm
      · rw [AHeap.get_put, if_neg y3]; exact c5
  · rintro L ⟨g1, g2, g3, g4, g5, g6⟩
    rw [List.take_length] at g6
    rw [find_none g6] at h
    refine ⟨_, .ready, none, by rw [g1, ← hlo], by simp, ?_⟩
    simp only [ABlock, AThen]
    have q1 : (AHeap.del y L).get ln = some (.box 38 [.sl t (line.map intCells)]) := by rw [AHeap.get_del, if_neg y1]; exact g3
    have q2 : (AHeap.del y L).get rs = some (ibox 0) := by rw [AHeap.get_del, if_neg y4]; exact g4
    have q3 := g5.del hHy
    refine hK _ _ ?_
    (apply sR; intro K hK; (iterate 2 (apply s_q; decide; rfl; (simp only [go_sem, q1, q2]; rfl))); apply s_store; (iterate 3 (simp only [go_sem, q1, q2]; rfl)); refine s_nil (hK _ _ ?_); clear hK K; apply AWp_ret)
    try simp only [AThen, ABlock]
    refine end_ret (by show resAV X.P _ _ [.cell 6 3] = _; simp only [go_sem]; try rfl) ⟨H, q3.over hHr, h⟩
  · exact ⟨AHeap.get_put_same _ _ _, get_fresh k1 hy, get_fresh kl hy, get_fresh kr hy, k3.put hy, by simp⟩
end Go.Proofs.YtcpfgjfiacfmoaaGreatDoor

namespace Go.Proofs
open Go.Shelf
def Tryz.lays189_ren : Go.Shelf.Ren := ⟨fun | 189 => 61 | 125 => 95 | 257 => 94 | 128 => 121 | 129 => 122 | 294 => 113 | 295 => 114 | 296 => 115 | 297 => 116 | 298 => 117 | 299 => 118 | 216 => 84 | 300 => 119 | 301 => 120 | 328 => 145 | 329 => 146 | 330 => 147 | 331 => 148 | 332 => 149 | 215 => 97 | 343 => 162 | n => n, fun | 28 => 38 | 3 => 3 | 46 => 105 | 0 => 0 | 51 => 132 | 53 => 134 | 4 => 4 | 183 => 126 | 182 => 125 | 131 => 74 | 5 => 5 | 9 => 9 | 218 => 146 | 222 => 150 | 228 => 160 | 229 => 161 | n => n, fun | n => n⟩
theorem Tryz.lays189 : Go.Proofs.Lays.n189 Tryz.prog Tryz.lays189_ren := {
  mixed := by kernel_rfl
  f125 := Tryz.func95.trans (congrArg some (by kernel_rfl))
  f128 := Tryz.func121.trans (congrArg some (by kernel_rfl))
  f129 := Tryz.func122.trans (congrArg some (by kernel_rfl))
  f189 := Tryz.func61.trans (congrArg some (by kernel_rfl))
  f215 := Tryz.func97.trans (congrArg some (by kernel_rfl))
  f216 := Tryz.func84.trans (congrArg some (by kernel_rfl))
  f257 := Tryz.func94.trans (congrArg some (by kernel_rfl))
  f294 := Tryz.func113.trans (congrArg some (by kernel_rfl))
  f295 := Tryz.func114.trans (congrArg some (by kernel_rfl))
  f296 := Tryz.func115.trans (congrArg some (by kernel_rfl))
  f297 := Tryz.func116.trans (congrArg some (by kernel_rfl))
  f298 := Tryz.func117.trans (congrArg some (by kernel_rfl))
  f299 := Tryz.func118.trans (congrArg some (by kernel_rfl))
  f300 := Tryz.func119.trans (congrArg some (by kernel_rfl))
  f301 := Tryz.func120.trans (congrArg some (by kernel_rfl))
  f328 := Tryz.func145.trans (congrArg some (by kernel_rfl))
  f329 := Tryz.func146.trans (congrArg some (by kernel_rfl))
  f330 := Tryz.func147.trans (congrArg some (by kernel_rfl))
  f331 := Tryz.func148.trans (congrArg some (by kernel_rfl))
  f332 := Tryz.func149.trans (congrArg some (by kernel_rfl))
  f343 := Tryz.func162.trans (congrArg some (by kernel_rfl))
  t0 := Tryz.underlying0
  a0 := Tryz.isAgg0
  z0 := Tryz.sizeOf0
  v0 := Tryz.zeroValue0
  t3 := Tryz.underlying3
  a3 := Tryz.isAgg3
  z3 := Tryz.sizeOf3
  v3 := Tryz.zeroValue3
  t4 := Tryz.underlying4
  a4 := Tryz.isAgg4
  z4 := Tryz.sizeOf4
  v4 := Tryz.zeroValue4
  t5 := Tryz.underlying5
  a5 := Tryz.isAgg5
  z5 := Tryz.sizeOf5
  v5 := Tryz.zeroValue5
  t9 := Tryz.underlying9
  a9 := Tryz.isAgg9
  z9 := Tryz.sizeOf9
  v9 := Tryz.zeroValue9
  t28 := Tryz.underlying38
  a28 := Tryz.isAgg38
  z28 := Tryz.sizeOf38
  v28 := Tryz.zeroValue38
  t46 := Tryz.underlying105
  a46 := Tryz.isAgg105
  z46 := Tryz.sizeOf105
  v46 := Tryz.zeroValue105
  t51 := Tryz.underlying132
  a51 := Tryz.isAgg132
  z51 := Tryz.sizeOf132
  v51 := Tryz.zeroValue132
  t53 := Tryz.underlying134
  a53 := Tryz.isAgg134
  z53 := Tryz.sizeOf134
  v53 := Tryz.zeroValue134
  t131 := Tryz.underlying74
  a131 := Tryz.isAgg74
  z131 := Tryz.sizeOf74
  v131 := Tryz.zeroValue74
  t182 := Tryz.underlying125
  a182 := Tryz.isAgg125
  z182 := Tryz.sizeOf125
  v182 := Tryz.zeroValue125
  t183 := Tryz.underlying126
  a183 := Tryz.isAgg126
  z183 := Tryz.sizeOf126
  v183 := Tryz.zeroValue126
  t218 := Tryz.underlying146
  a218 := Tryz.isAgg146
  z218 := Tryz.sizeOf146
  v218 := Tryz.zeroValue146
  t222 := Tryz.underlying150
  a222 := Tryz.isAgg150
  z222 := Tryz.sizeOf150
  v222 := Tryz.zeroValue150
  t228 := Tryz.underlying160
  a228 := Tryz.isAgg160
  z228 := Tryz.sizeOf160
  v228 := Tryz.zeroValue160
  t229 := Tryz.underlying161
  a229 := Tryz.isAgg161
  z229 := Tryz.sizeOf161
  v229 := Tryz.zeroValue161 }
def Tryz.laysNm220_ren : Go.Shelf.Ren := ⟨fun | 20 => 78 | n => n, fun | 22 => 38 | 3 => 3 | 4 => 4 | 0 => 0 | n => n, fun | n => n⟩
theorem Tryz.laysNm220 : Go.Proofs.Lays2.n20 Tryz.prog Tryz.laysNm220_ren := {
  mixed := by kernel_rfl
  f20 := Tryz.func78.trans (congrArg some (by kernel_rfl))
  t0 := Tryz.underlying0
  a0 := Tryz.isAgg0
  z0 := Tryz.sizeOf0
  v0 := Tryz.zeroValue0
  t3 := Tryz.underlying3
  a3 := Tryz.isAgg3
  z3 := Tryz.sizeOf3
  v3 := Tryz.zeroValue3
  t4 := Tryz.underlying4
  a4 := Tryz.isAgg4
  z4 := Tryz.sizeOf4
  v4 := Tryz.zeroValue4
  t22 := Tryz.underlying38
  a22 := Tryz.isAgg38
  z22 := Tryz.sizeOf38
  v22 := Tryz.zeroValue38
  i3 := by kernel_rfl }
def Tryz.laysNm221_ren : Go.Shelf.Ren := ⟨fun | 21 => 89 | 27 => 111 | 28 => 112 | 35 => 144 | 39 => 161 | n => n, fun | 22 => 38 | 3 => 3 | 4 => 4 | 0 => 0 | n => n, fun | n => n⟩
theorem Tryz.laysNm221 : Go.Proofs.Lays2.n21 Tryz.prog Tryz.laysNm221_ren := {
  mixed := by kernel_rfl
  f21 := Tryz.func89.trans (congrArg some (by kernel_rfl))
  f27 := Tryz.func111.trans (congrArg some (by kernel_rfl))
  f28 := Tryz.func112.trans (congrArg some (by kernel_rfl))
  f35 := Tryz.func144.trans (congrArg some (by kernel_rfl))
  f39 := Tryz.func161.trans (congrArg some (by kernel_rfl))
  t0 := Tryz.underlying0
  a0 := Tryz.isAgg0
  z0 := Tryz.sizeOf0
  v0 := Tryz.zeroValue0
  t3 := Tryz.underlying3
  a3 := Tryz.isAgg3
  z3 := Tryz.sizeOf3
  v3 := Tryz.zeroValue3
  t4 := Tryz.underlying4
  a4 := Tryz.isAgg4
  z4 := Tryz.sizeOf4
  v4 := Tryz.zeroValue4
  t22 := Tryz.underlying38
  a22 := Tryz.isAgg38
  z22 := Tryz.sizeOf38
  v22 := Tryz.zeroValue38
  i3 := by kernel_rfl }
namespace YtcpfgjfiacfmoaaGreatDoor
open Go.AL
def sortZ (l : List Int) : List Int := l.mergeSort fun x y => decide (x ≤ y)
theorem sortsI61 : SortsOrd X.P 61 (Value.int .i64) sortZ :=
  ⟨fun p cap w => Any.slices_Sort_int_none Tryz.lays189 p cap w, fun blk cap ss w hH hblk hsz => Any.slices_Sort_int Tryz.lays189 blk 0 cap ss w hH hblk hsz⟩
theorem inserts89 : InsertsAt X.P 89 3 8 (.int .i64 0) where
  shift := fun b off n c i vb voff vc cs x w hi hroom hc63 hvb hcl hcs hsp hfz hx h1c h1x tA tB kA kB hsa hsb hkB hfa hfe =>
    Any2.slices_Insert_int_shift Tryz.laysNm221 b off n c i vb voff 1 vc cs [x] w hi (by decide) hroom hc63 hvb hcl rfl hcs hsp hfz (fun j v hj => by cases j with | zero => cases hj; exact hx | succ j => cases hj) h1c (fun v hv => by simp at hv; subst hv; exact h1x) tA tB kA kB hsa hsb hkB hfa hfe
  endRoom := fun b off n c vb voff vc x w hroom hc63 hsp hfz hx h1x =>
    Any2.slices_Insert_int_end_room Tryz.laysNm221 b off n c vb voff 1 vc [x] w (by decide) hroom hc63 rfl (fun j hj => by rw [Nat.lt_one_iff.1 hj]; exact hsp) (fun j hj => by rw [Nat.lt_one_iff.1 hj]; exact hfz) (fun j v hj => by cases j with | zero => cases hj; exact hx | succ j => cases hj) (fun v hv => by simp at hv; subst hv; exact h1x)
  endGrow := fun a n c vb voff vc cs x w hnc hroom hbig hcl hcs hx h1x =>
    Any2.slices_Insert_int_end_grow Tryz.laysNm221 (some a) n c vb voff 1 vc cs [x] w (by decide) hnc hroom hbig hcl rfl (fun h => by cases h) (fun a' ha j v hj => by cases ha; exact hcs j v hj) (fun j v hj => by cases j with | zero => cases hj; exact hx | succ j => cases hj) (fun v hv => by simp at hv; subst hv; exact h1x)
  grow := fun b off n c i vb voff vc cs x w hi hnc hroom hbig hcl hcs hx h1c h1x =>
    Any2.slices_Insert_int_grow Tryz.laysNm221 b off n c i vb voff 1 vc cs [x] w hi (by decide) hnc hroom hbig hcl rfl hcs (fun j v hj => by cases j with | zero => cases hj; exact hx | succ j => cases hj) h1c (fun v hv => by simp at hv; subst hv; exact h1x)
  zone := rfl
end YtcpfgjfiacfmoaaGreatDoor
end Go.Proofs

set_option linter.unusedSimpArgs false
set_option linter.unusedVariables false
set_option maxRecDepth 100000
namespace Go.Proofs.YtcpfgjfiacfmoaaGreatDoor
open Go Go.AL
attribute [local irreducible] AOps AWp SOps AE AT ACall AApp

theorem sortZ_len (l : List Int) : (sortZ l).length = l.length := by rw [sortZ, List.length_mergeSort]
theorem compactsZ : Compacts X.P 78 (Value.int .i64) Lib.compact (fun zs => List.replicate (zs.length - (Lib.compact zs).length) 0) :=
  ⟨fun p cap w => Any.slices_Compact_int_empty Tryz.laysNm220 p cap w, fun blk cap ss w hH hsz hcap => Any.slices_Compact_int Tryz.laysNm220 blk 0 cap ss w hH hsz hcap⟩
theorem comp_upto {l : List Int} (hl : l.Pairwise (· ≤ ·)) : ∀ m, m ≤ l.length → (∀ x, x ∈ Lib.compactUpTo l.toArray m ↔ x ∈ l.take m) ∧ (Lib.compactUpTo l.toArray m).Pairwise (· < ·)
  | 0, _ => ⟨fun x => by simp [Lib.compactUpTo], by simp [Lib.compactUpTo]⟩
  | m + 1, hm => by
    obtain ⟨h1, h2⟩ := comp_upto hl m (by omega)
    have hx : l[m]? = some l[m] := List.getElem?_eq_getElem (by omega)
    have ex : l.toArray[m]! = l[m] := by rw [getElem!_pos _ _ (by simp; omega)]; simp
    rw [Lib.compactUpTo_succ, take_succ hx, ex]
    by_cases hk : Lib.keeps l.toArray m = true
    · rw [if_pos hk]
      refine ⟨fun x => by rw [List.mem_append, List.mem_append, h1], ?_⟩
      rw [List.pairwise_append]
      refine ⟨h2, List.pairwise_singleton _ _, fun a ha b hb => ?_⟩
      rw [List.mem_singleton] at hb
      subst hb
      have ha' := (h1 a).1 ha
      obtain ⟨j, hj, rfl⟩ := List.mem_take_iff_getElem.1 ha'
      have hjm : j < m := by omega
      have hle := List.pairwise_iff_getElem.1 hl j m (by omega) (by omega) hjm
      simp only [Lib.keeps, decide_eq_true_eq] at hk
      rcases hk with hk | hk
      · omega
      · have e2 : l.toArray[m - 1]! = l[m - 1] := by rw [getElem!_pos _ _ (by simp; omega)]; simp
        rw [ex, e2] at hk
        have h3 : l[j] ≤ l[m - 1] := by
          by_cases e : j = m - 1
          · subst e; exact Int.le_refl _
          · exact List.pairwise_iff_getElem.1 hl j (m - 1) (by omega) (by omega) (by omega)
        have h4 := List.pairwise_iff_getElem.1 hl (m - 1) m (by omega) (by omega) (by omega)
        omega
    · rw [if_neg hk, List.append_nil]
      refine ⟨fun x => ?_, h2⟩
      rw [h1, List.mem_append, List.mem_singleton]
      refine ⟨.inl, fun h => ?_⟩
      rcases h with h | rfl
      · exact h
      · have hk2 : ¬ (m = 0 ∨ l.toArray[m]! ≠ l.toArray[m - 1]!) := fun h => hk (by simp only [Lib.keeps, decide_eq_true_eq]; exact h)
        have hm0 : m ≠ 0 := fun h => hk2 (.inl h)
        have he : l.toArray[m]! = l.toArray[m - 1]! := Decidable.byContradiction fun h => hk2 (.inr h)
        have e2 : l.toArray[m - 1]! = l[m - 1] := by rw [getElem!_pos _ _ (by simp; omega)]; simp
        rw [ex, e2] at he
        rw [he, List.mem_take_iff_getElem]
        exact ⟨m - 1, by omega, rfl⟩
theorem sortZ_sorted (l : List Int) : (sortZ l).Pairwise (· ≤ ·) := by
  have := List.pairwise_mergeSort (le := fun x y : Int => decide (x ≤ y)) (fun a b c h k => by simp only [decide_eq_true_eq] at *; omega) (fun a b => by simp only [Bool.or_eq_true, decide_eq_true_eq]; omega) l
  exact this.imp (fun h => by simpa using h)
theorem sortZ_perm (l : List Int) : (sortZ l).Perm l := List.mergeSort_perm _ _
def onceZ (l : List Int) : List Int := Lib.compact (sortZ l)
theorem onceZ_mem (l : List Int) (x : Int) : x ∈ onceZ l ↔ x ∈ l := by
  have := (comp_upto (sortZ_sorted l) (sortZ l).length (Nat.le_refl _)).1 x
  rw [List.take_length] at this
  exact this.trans (sortZ_perm l).mem_iff
theorem onceZ_lt (l : List Int) : (onceZ l).Pairwise (· < ·) := (comp_upto (sortZ_sorted l) (sortZ l).length (Nat.le_refl _)).2
theorem sorted_uniq : ∀ {l m : List Int}, l.Pairwise (· < ·) → m.Pairwise (· < ·) → (∀ x, x ∈ l ↔ x ∈ m) → l = m := fun {l m} hl hm h => by
  have hp : l.Perm m := (List.perm_ext_iff_of_nodup (hl.imp fun h e => by subst e; exact absurd h (Int.lt_irrefl _)) (hm.imp fun h e => by subst e; exact absurd h (Int.lt_irrefl _))).2 h
  exact hp.eq_of_pairwise (le := (· < ·)) (fun a b _ _ h1 h2 => absurd (Int.lt_trans h1 h2) (Int.lt_irrefl _)) hl hm
theorem those_eq (n : Nat) (l : List Int) : onceZ (l.filter fun x => !!inR n x) = setL n l := by
  refine sorted_uniq (onceZ_lt _) (setL_lt n l) (fun x => ?_)
  rw [onceZ_mem, setL_mem, List.mem_filter]
  simp [inR]
set_option maxHeartbeats 4000000 in
theorem those_r (p : Pa) (hw : p.Wide) (t : Bool) (l : List Int) (hl : l.length ≤ 1000) (H : AHeap) (Kc : AV → AHeap → Prop) (h : ∀ s L, Ext H L → RowAt 3 1 H L ((setL p.events.length l).map intCells) s → Kc s L) : ACall X 43 [.agg p.cells, .sl t (l.map intCells)] H Kc := by
  rw [Pa.cells]
  refine ACall_intro Tryz.func43 rfl (by kernel_rfl) (by rw [Tryz.ntmps43]; simp) ?_; rw [Tryz.ntmps43]; simp only [frame0, Nat.reduceAdd]
  apply sR; intro K hK
  apply s_box; decide; exact (by simp only [go_sem]; try rfl); exact (by simp only [go_sem]; try rfl); intro q hq
  have g1 := AHeap.get_put_same q (paBox p) H
  have hE := Ext.fresh hq (o := paBox p)
  generalize hM : AHeap.put q (.box 35 [.sl false (p.names.map strCells), .sl false (p.events.map Ev.cells), .sl false (p.prev.map rowCells), .sl false (p.auth.map rowCells), .sl false (p.denied.map bolCells)]) H = M
  have hM2 : H.put q (paBox p) = M := hM
  rw [hM2] at g1 hE
  clear hM hM2
  (refine qr ?_; refine s_nil (hK _ _ ?_); clear hK K; apply sR; intro K hK; refine qr ?_; apply s_call; decide; (iterate 2 (simp only [go_sem]; rfl)); apply clone_c t l (by omega); intro a1 L1 e1 r1; refine qr ?_)
  have hq1 := e1 _ _ g1
  have hE1 := hE.trans e1
  have r1b := RowAt.base r1 hE
  (apply s_call; decide; (iterate 2 (simp only [go_sem]; rfl)); apply deleteFunc_c 77 q (paBox p) (fun _ _ _ h => by cases h) (fun x => !inR p.events.length x) l (by omega) H L1 hE1 a1 r1b hq1 (fun x L' hq' K hK => those1_d p hw x q L' hq' K hK); intro a2 L2 r2 e2 k2; refine qr ?_; refine s_nil (hK _ _ ?_); clear hK K; apply sR; intro K hK; refine qr ?_)
  obtain ⟨l2, hl2⟩ : ∃ l2, (l.filter fun x => !!inR p.events.length x) = l2 := ⟨_, rfl⟩
  have hl2n : l2.length ≤ 1000 := by rw [← hl2]; exact Nat.le_trans (List.length_filter_le _ _) hl
  have heq := those_eq p.events.length l
  rw [hl2] at r2 heq
  (apply s_call; decide; (iterate 2 (simp only [go_sem]; rfl)); apply ACall_ord (ss := l2) sortsI61 (by kernel_rfl) (fun _ _ x => VR.v _) (fun F S v x hv => by cases hv; rfl) (sortZ_len _) e2 r2 (by omega); intro L3 r3 e3 k3; refine s_nil (hK _ _ ?_); clear hK K; apply sR; intro K hK; refine qr ?_)
  have hsl : (onceZ l2).length + (List.replicate ((sortZ l2).length - (Lib.compact (sortZ l2)).length) (0 : Int)).length = (sortZ l2).length := by
    have := Lib.compact_length_le (sortZ l2)
    rw [List.length_replicate]
    show (Lib.compact (sortZ l2)).length + _ = _
    omega
  (apply s_call; decide; (iterate 2 (simp only [go_sem]; rfl)); apply ACall_compact (ss := sortZ l2) compactsZ (by kernel_rfl) (fun _ _ x => VR.v _) (fun F S v x hv => by cases hv; rfl) hsl e3 r3 (by rw [sortZ_len]; omega); intro a4 L4 r4 e4 k4; refine qr ?_; refine s_nil (hK _ _ ?_); clear hK K; apply AWp_ret)
  have r4 : RowAt 3 1 H L4 ((onceZ l2).map intCells) a4 := r4
  rw [heq] at r4
  exact h _ _ e4 r4
theorem those_c (p : Pa) (hw : p.Wide) (t : Bool) (l : List Int) (hl : l.length ≤ 1000) (H : AHeap) (Kc : AV → AHeap → Prop) (h : Kc (.sl false ((setL p.events.length l).map intCells)) H) : ACall X 43 [.agg p.cells, .sl t (l.map intCells)] H Kc :=
  ACall.gr (e := 3) (sz := 1) h (those_r p hw t l hl H _ fun s L h1 h2 => h2.toGr h1)
end Go.Proofs.YtcpfgjfiacfmoaaGreatDoor

set_option linter.unusedSimpArgs false
set_option linter.unusedVariables false
namespace Go.Proofs.YtcpfgjfiacfmoaaGreatDoor
open Go Go.AL

theorem pos_count {α : Type} {lt : α → α → Bool} (hi : ∀ a, lt a a = false) (ha : ∀ a c, lt a c = true → lt c a = false) {s : List α} (hs : s.Pairwise (fun a c => lt a c = true)) {n : Nat} {x : α} (hn : s[n]? = some x) :
    (s.filter fun k => lt k x).length = n := by
  obtain ⟨h1, h2⟩ := List.getElem?_eq_some_iff.1 hn
  have hd : s = s.take n ++ x :: s.drop (n + 1) := by
    rw [← h2, ← List.drop_eq_getElem_cons h1, List.take_append_drop]
  have ht : (s.take n).length = n := List.length_take_of_le (by omega)
  rw [hd] at hs
  rw [List.pairwise_append, List.pairwise_cons] at hs
  obtain ⟨_, ⟨k1, _⟩, k2⟩ := hs
  rw [hd, List.filter_append, List.filter_cons, if_neg (by rw [hi]; simp)]
  rw [List.filter_eq_self.2 (fun a h => k2 a h x (by simp)), List.filter_eq_nil_iff.2 (fun a h => by rw [ha _ _ (k1 a h)]; simp), List.append_nil, ht]
end Go.Proofs.YtcpfgjfiacfmoaaGreatDoor

set_option linter.unusedSimpArgs false
set_option linter.unusedVariables false
set_option maxRecDepth 100000
namespace Go.Proofs.YtcpfgjfiacfmoaaGreatDoor
open Go Go.AL
attribute [local irreducible] AOps AWp SOps AE AT ACall AApp

def ageLt (p : Pa) (a b : Nat) : Prop := (evAt p a).ts < (evAt p b).ts ∨ ((evAt p a).ts = (evAt p b).ts ∧ (nmAt p a < nmAt p b ∨ (nmAt p a = nmAt p b ∧ a < b)))
theorem age_irr (p : Pa) (a : Nat) : ¬ ageLt p a a := by
  rintro (h | ⟨_, h | ⟨_, h⟩⟩)
  · omega
  · exact lt_irr _ h
  · omega
theorem age_tr {p : Pa} {a b c : Nat} (h : ageLt p a b) (k : ageLt p b c) : ageLt p a c := by
  rcases h with h | ⟨h1, h⟩
  · rcases k with k | ⟨k1, _⟩
    · exact .inl (Int.lt_trans h k)
    · exact .inl (by rw [← k1]; exact h)
  · rcases k with k | ⟨k1, k⟩
    · exact .inl (by rw [h1]; exact k)
    · refine .inr ⟨h1.trans k1, ?_⟩
      rcases h with h | ⟨h2, h⟩
      · rcases k with k | ⟨k2, _⟩
        · exact .inl (lt_tr h k)
        · exact .inl (by rw [← k2]; exact h)
      · rcases k with k | ⟨k2, k⟩
        · exact .inl (by rw [h2]; exact k)
        · exact .inr ⟨h2.trans k2, by omega⟩
theorem age_tot (p : Pa) {a b : Nat} (hn : a ≠ b) : ageLt p a b ∨ ageLt p b a := by
  rcases Int.lt_trichotomy (evAt p a).ts (evAt p b).ts with h | h | h
  · exact .inl (.inl h)
  · rcases lt_tri (nmAt p a) (nmAt p b) with k | k | k
    · exact .inl (.inr ⟨h, .inl k⟩)
    · rcases Nat.lt_or_ge a b with m | m
      · exact .inl (.inr ⟨h, .inr ⟨k, m⟩⟩)
      · exact .inr (.inr ⟨h.symm, .inr ⟨k.symm, by omega⟩⟩)
    · exact .inr (.inr ⟨h.symm, .inl k⟩)
  · exact .inr (.inl h)
def ordI (p : Pa) (ff : Int → Int) (a b : Nat) : Int := firstNZ [cmp (ff b) (ff a), ageI p a b]
def ordLt (p : Pa) (ff : Int → Int) (a b : Nat) : Prop := ff b < ff a ∨ (ff a = ff b ∧ ageLt p a b)
theorem ordI_lt {p : Pa} {ff : Int → Int} {a b : Nat} : ordI p ff a b < 0 ↔ ordLt p ff a b := by
  rw [ordI, ordLt]
  simp only [firstNZ]
  by_cases h : cmp (ff b) (ff a) = 0
  · rw [if_pos h]
    have e := Go.AL.cmp_zero.1 h
    by_cases h2 : ageI p a b = 0
    · have hno : ¬ ageLt p a b := fun h3 => by have := age_neg.2 h3; omega
      simp [h2, hno]; omega
    · rw [if_neg h2, age_neg]
      simp only [e, Int.lt_irrefl, false_or, true_and]; rfl
  · rw [if_neg h, cmp_pos]
    have hne : ff a ≠ ff b := fun e => h (Go.AL.cmp_zero.2 e.symm)
    simp [hne]
theorem ord_irr {p : Pa} {ff : Int → Int} (a : Nat) : ¬ ordLt p ff a a := by
  rintro (h | ⟨_, h⟩)
  · omega
  · exact age_irr p a h
theorem ord_tr {p : Pa} {ff : Int → Int} {a b c : Nat} (h : ordLt p ff a b) (k : ordLt p ff b c) : ordLt p ff a c := by
  rcases h with h | ⟨h1, h⟩
  · rcases k with k | ⟨k1, _⟩
    · exact .inl (Int.lt_trans k h)
    · exact .inl (by rw [← k1]; exact h)
  · rcases k with k | ⟨k1, k⟩
    · exact .inl (by rw [h1]; exact k)
    · exact .inr ⟨h1.trans k1, age_tr h k⟩
theorem ord_tot (p : Pa) (ff : Int → Int) {a b : Nat} (hn : a ≠ b) : ordLt p ff a b ∨ ordLt p ff b a := by
  rcases Int.lt_trichotomy (ff a) (ff b) with h | h | h
  · exact .inr (.inl h)
  · rcases age_tot p hn with k | k
    · exact .inl (.inr ⟨h, k⟩)
    · exact .inr (.inr ⟨h.symm, k⟩)
  · exact .inl (.inl h)
def ltB (p : Pa) (ff : Int → Int) (a b : Int) : Bool := decide (ordI p ff a.toNat b.toNat < 0)
theorem ltB_iff {p : Pa} {ff : Int → Int} {a b : Int} : ltB p ff a b = true ↔ ordLt p ff a.toNat b.toNat := by rw [ltB, decide_eq_true_iff, ordI_lt]
theorem ltB_irr (p : Pa) (ff : Int → Int) : ∀ a, ltB p ff a a = false := fun a => by
  cases h : ltB p ff a a with
  | false => rfl
  | true => exact absurd (ltB_iff.1 h) (ord_irr _)
theorem ltB_asy (p : Pa) (ff : Int → Int) : ∀ a c, ltB p ff a c = true → ltB p ff c a = false := fun a c h => by
  cases k : ltB p ff c a with
  | false => rfl
  | true => exact absurd (ord_tr (ltB_iff.1 h) (ltB_iff.1 k)) (ord_irr _)
theorem ltB_tot (p : Pa) (ff : Int → Int) {a c : Int} (ha : 0 ≤ a) (hc : 0 ≤ c) (hn : a ≠ c) : ltB p ff a c = true ∨ ltB p ff c a = true := by
  rcases ord_tot p ff (a := a.toNat) (b := c.toNat) (by omega) with h | h
  · exact .inl (ltB_iff.2 h)
  · exact .inr (ltB_iff.2 h)
def Ordered (p : Pa) (ff : Int → Int) (l s : List Int) : Prop := s.Pairwise (fun a c => ltB p ff a c = true) ∧ s.Perm l
theorem ord_swo (p : Pa) (ff : Int → Int) (l : List Int) (n : Nat) : Swo n (fun i j => ordI p ff (l.getD i 0).toNat (l.getD j 0).toNat) where
  irrefl := fun i _ h => ord_irr _ (ordI_lt.1 h)
  trans := fun i j k _ _ _ h1 h2 => ordI_lt.2 (ord_tr (ordI_lt.1 h1) (ordI_lt.1 h2))
  ntrans := fun i j k _ _ _ h1 h2 h3 => by
    simp only [ordI_lt] at h1 h2 h3
    by_cases e1 : (l.getD i 0).toNat = (l.getD j 0).toNat
    · rw [e1] at h3; exact h2 h3
    · by_cases e2 : (l.getD j 0).toNat = (l.getD k 0).toNat
      · rw [← e2] at h3; exact h1 h3
      · have k1 := (ord_tot p ff e1).resolve_left h1
        have k2 := (ord_tot p ff e2).resolve_left h2
        exact ord_irr _ (ord_tr h3 (ord_tr k2 k1))
theorem perm_getD {l : List Int} {q : List Nat} (hq : q.Perm (List.range l.length)) : (q.map fun i => l.getD i 0).Perm l := by
  have h2 : (List.range l.length).map (fun i => l.getD i 0) = l := by
    apply List.ext_getElem?
    intro i
    by_cases hi : i < l.length
    · simp [hi]
    · simp [hi]
  have := hq.map (fun i => l.getD i 0)
  rwa [h2] at this
theorem ordered_of {p : Pa} {ff : Int → Int} {l : List Int} {q : List Nat} (hnd : l.Nodup) (hpos : ∀ x ∈ l, 0 ≤ x) (hq : q.Perm (List.range l.length))
    (hs : ∀ i j a d : Nat, i < j → q[i]? = some a → q[j]? = some d → ¬ ordI p ff (l.getD d 0).toNat (l.getD a 0).toNat < 0) : Ordered p ff l (q.map fun i => l.getD i 0) := by
  have hp := perm_getD hq
  refine ⟨?_, hp⟩
  rw [List.pairwise_iff_getElem]
  intro i j hi hj hij
  have hi' : i < q.length := by simpa using hi
  have hj' : j < q.length := by simpa using hj
  have hqn := hq.nodup_iff.2 List.nodup_range
  have hne : q[i] ≠ q[j] := fun e => by have := (List.getElem_inj hqn).1 e; omega
  have ha : q[i] < l.length := List.mem_range.1 (hq.mem_iff.1 (List.getElem_mem hi'))
  have hb : q[j] < l.length := List.mem_range.1 (hq.mem_iff.1 (List.getElem_mem hj'))
  have h1 := hs i j _ _ hij (List.getElem?_eq_getElem hi') (List.getElem?_eq_getElem hj')
  rw [ordI_lt] at h1
  simp only [List.getElem_map]
  have ea : l.getD q[i] 0 = l[q[i]] := getD_some (List.getElem?_eq_getElem ha)
  have eb : l.getD q[j] 0 = l[q[j]] := getD_some (List.getElem?_eq_getElem hb)
  rw [ea, eb] at h1 ⊢
  have hv : l[q[i]] ≠ l[q[j]] := fun e => hne ((List.getElem_inj hnd).1 e)
  rcases ltB_tot p ff (hpos _ (List.getElem_mem ha)) (hpos _ (List.getElem_mem hb)) hv with h | h
  · exact h
  · exact absurd (ltB_iff.1 h) h1
theorem perm_cellsI {l : List Int} {q : List Nat} (hq : q.Perm (List.range l.length)) : (q.map fun i => (l.map intCells).getD i []) = (q.map fun i => l.getD i 0).map intCells := by
  rw [List.map_map]
  apply List.map_congr_left
  intro i hi
  have h := List.mem_range.1 (hq.mem_iff.1 hi)
  obtain ⟨x, hx⟩ := gete h
  show (l.map intCells).getD i [] = intCells (l.getD i 0)
  rw [getD_some hx, getD_some (int_at hx)]; rfl
def mkN (ff : Int → Int) (S : List Int) : List (Int × AV) := S.map fun k => (k, .v (.int .i64 (ff k)))
theorem mkN_find (ff : Int → Int) (k : Int) : ∀ S : List Int, kfind k (mkN ff S) = if k ∈ S then some (.v (.int .i64 (ff k))) else none
  | [] => rfl
  | x :: S => by
    have ih := mkN_find ff k S
    rw [mkN] at ih ⊢
    rw [List.map_cons, kfind, ih]
    by_cases e : x = k
    · subst e; simp
    · simp [e, Ne.symm e]
theorem mkN_put {ff : Int → Int} {k : Int} : ∀ {S : List Int}, k ∉ S → kput k (.v (.int .i64 (ff k))) (mkN ff S) = mkN ff (S ++ [k])
  | [], _ => rfl
  | x :: S, h => by
    have ih := mkN_put (ff := ff) (k := k) (S := S) (fun hm => h (by simp [hm]))
    rw [mkN] at ih
    rw [mkN, List.map_cons, kput, if_neg (fun e => h (by have e : x = k := e; simp [e])), ih]
    rfl
theorem setL_nd (n : Nat) (l : List Int) : (setL n l).Nodup := (setL_lt n l).imp fun h e => by subst e; exact absurd h (Int.lt_irrefl _)
theorem setL_pos {n : Nat} {l : List Int} : ∀ x ∈ setL n l, 0 ≤ x ∧ x < n := fun x hx => (setL_mem.1 hx).2
theorem fresh_at {l : List Int} (hnd : l.Nodup) {i : Nat} {x : Int} (hx : l[i]? = some x) : x ∉ l.take i := fun hm => by
  obtain ⟨j, hj, e⟩ := List.mem_take_iff_getElem.1 hm
  obtain ⟨hi, e2⟩ := List.getElem?_eq_some_iff.1 hx
  rw [← e2] at e
  have := (List.getElem_inj hnd).1 e
  omega
abbrev pCells (p : Pa) : List AV := [.sl false (p.names.map strCells), .sl false (p.events.map Ev.cells), .sl false (p.prev.map rowCells), .sl false (p.auth.map rowCells), .sl false (p.denied.map bolCells)]
end Go.Proofs.YtcpfgjfiacfmoaaGreatDoor
