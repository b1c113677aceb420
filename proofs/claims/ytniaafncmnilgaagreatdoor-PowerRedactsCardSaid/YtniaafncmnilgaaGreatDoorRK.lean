/-
  The document's levels: Number, told, named, Parse. Contracts.
-/
import Derived.Test.YtniaafncmnilgaaGreatDoorRO
import Derived.Test.YtniaafncmnilgaaGreatDoorPT
import Derived.Test.YtniaafncmnilgaaGreatDoorR6
set_option linter.unusedSimpArgs false
set_option linter.unusedVariables false
set_option maxRecDepth 100000
namespace Go.Proofs.YtniaafncmnilgaaGreatDoor
open Go Go.AL
attribute [local irreducible] AOps AWp SOps AE AT ACall AApp

theorem rnumber_c (j : J) (H : AHeap) (Kc : AV → AHeap → Prop) (h : Kc (.tup [.v (.int .i64 j.int), .v (.bool (levelB j))]) H) : ACall X 47 [.agg j.cells] H Kc := by
  refine ACall.drop ?_
  rw [J.cells_eq]
  refine ACall_intro Tryz.func47 rfl (by kernel_rfl) (by rw [Tryz.ntmps47]; simp) ?_; rw [Tryz.ntmps47]; simp only [frame0, Nat.reduceAdd]
  refine AWp_seq_k (fun K hK => ?_); apply s_region
  apply s_box; decide; exact (by simp only [go_sem]; try rfl); exact (by simp only [go_sem]; try rfl); intro p hp
  ((iterate 2 (apply s_q; decide; rfl; (simp only [go_sem]; rfl))); apply s_nil; simp only [AThen, ABlock]; refine hK _ _ ?_; clear hK K; refine AWp_seq_k (fun K hK => ?_))
  generalize hgenq : AHeap.put p _ H = M; obtain ⟨g, hextq⟩ := gen_ex hgenq hp; have hE := hextq; clear hextq hgenq
  apply AWp_drawA [0, 1, 2, 3, 4, 5, 6, 7, 8, 9, 10, 11, 12, 13, 14, 15, 16] [] 0 (by exact mixed); kernel_rfl; (simp only [go_sem]; rfl); (simp only [go_sem]; rfl)
  ((iterate 6 (apply e_q; decide; (simp only [go_sem, g]; rfl))); apply e_spec; decide; (simp only [go_sem, g]; rfl); (simp only [go_sem, g]; rfl); (simp only [go_sem, g]; rfl); (simp only [go_sem, g]; rfl); trivial; (iterate 2 (apply e_spec; decide; (simp only [go_sem, g]; rfl); (simp only [go_sem, g]; rfl); (simp only [go_sem, g]; rfl); (simp only [go_sem, g]; rfl); simp [condsOk])); apply e_pick; decide; (simp only [go_sem, g]; rfl); (simp only [go_sem, g]; rfl); (simp only [go_sem, g]; rfl); (simp only [go_sem, g]; rfl); (simp only [go_sem, g]; rfl); (simp only [go_sem, g]; rfl); trivial; simp [condsOk]; trivial; apply e_q; decide; (simp only [go_sem, g]; rfl); apply e_spec; decide; (simp only [go_sem, g]; rfl); (simp only [go_sem, g]; rfl); (simp only [go_sem, g]; rfl); (simp only [go_sem, g]; rfl); trivial; (iterate 2 (apply e_spec; decide; (simp only [go_sem, g]; rfl); (simp only [go_sem, g]; rfl); (simp only [go_sem, g]; rfl); (simp only [go_sem, g]; rfl); simp [condsOk])); apply e_pick; decide; (simp only [go_sem, g]; rfl); (simp only [go_sem, g]; rfl); (simp only [go_sem, g]; rfl); (simp only [go_sem, g]; rfl); (simp only [go_sem, g]; rfl); (simp only [go_sem, g]; rfl); trivial; simp [condsOk]; trivial; (iterate 2 (apply e_q; decide; (simp only [go_sem, g]; rfl))); apply e_nil; apply t_nil; simp only [AThen, ABlock]; refine hK _ _ ?_; clear hK K; apply AWp_ret)
  refine end_ret (av := .tup [.v (.int .i64 j.int), .v (.bool (levelB j))]) ?_ ⟨H, hE, h⟩
  show resAV X.P _ _ [.tmp 2, .tmp 3] = _
  simp only [go_sem, levelB]; try rfl
def tellB (o : Option J) : Bool := match o with | none => true | some v => levelB v
theorem told_c (j : J) (hl : j.keys.length ≤ 9223372036854775807 ∧ j.list.length ≤ 9223372036854775807) (key : List UInt8) (n : Int) (H : AHeap) (Kc : AV → AHeap → Prop) (h : Kc (.tup [.v (.int .i64 (numR (jGet j key) n)), .v (.bool (tellB (jGet j key)))]) H) : ACall X 20 [.agg j.cells, .s key, .v (.int .i64 n)] H Kc := by
  refine ACall.drop ?_
  obtain ⟨o, ho⟩ : ∃ o, o = jGet j key := ⟨_, rfl⟩
  have hG : ∀ (H : AHeap) (K : AV → AHeap → Prop), K (getRes o) H → ACall X 36 [.agg j.cells, .s key] H K := fun H K hk => get_c j hl _ H K (by rw [← ho]; exact hk)
  rw [← ho] at h
  clear ho
  rw [J.cells_eq]
  refine ACall_intro Tryz.func20 rfl (by kernel_rfl) (by rw [Tryz.ntmps20]; simp) ?_; rw [Tryz.ntmps20]; simp only [frame0, Nat.reduceAdd]
  refine AWp_seq_k (fun K hK => ?_); apply s_region
  apply s_box; decide; exact (by simp only [go_sem]; try rfl); exact (by simp only [go_sem]; try rfl); intro p hp
  ((iterate 2 (apply s_q; decide; rfl; (simp only [go_sem]; rfl))); apply s_nil; simp only [AThen, ABlock]; refine hK _ _ ?_; clear hK K; refine AWp_seq_k (fun K hK => ?_); apply s_region; (iterate 2 (apply s_q; decide; rfl; (simp only [go_sem]; rfl))))
  generalize hgenq : AHeap.put p _ H = M; obtain ⟨g, hextq⟩ := gen_ex hgenq hp; have hE := hextq; clear hextq hgenq
  cases o with
  | none =>
    have hG : ∀ (H : AHeap) (K : AV → AHeap → Prop), K (.tup [.agg (J.mk 0 0 [] [] []).cells, .v (.bool false)]) H → ACall X 36 [.agg j.cells, .s key] H K := hG
    have jz := J.cells_eq (J.mk 0 0 [] [] [])
    (apply s_call; decide; (simp only [go_sem, g, jz]; rfl); (simp only [go_sem, g, jz]; rfl); refine ACall.args_eq (bs := [.agg j.cells, .s key]) ?_ ?_; (focus (rw [J.cells_eq j]; done)); apply hG; (iterate 3 (apply s_q; decide; rfl; (simp only [go_sem, g, jz]; rfl))); apply s_alloc; decide; exact zc_25; intro b hb; apply s_store; (simp only [go_sem, g, jz]; rfl); (simp only [go_sem, g, jz]; rfl); (simp only [go_sem, g, jz]; rfl); apply s_q; decide; rfl; (simp only [go_sem, g, jz]; rfl); apply s_nil; simp only [AThen, ABlock]; refine hK _ _ ?_; clear hK K; (iterate 2 (refine AWp_seq_k (fun K hK => ?_))); apply s_region; (iterate 2 (apply s_q; decide; rfl; (simp only [go_sem, g, jz]; rfl))); apply s_nil; simp only [AThen, ABlock]; refine hK _ _ ?_; clear hK K)
    obtain ⟨q, hnewq⟩ : ∃ q, q = b := ⟨_, rfl⟩; have hq := hb; rw [← hnewq] at hq ⊢; clear hb hnewq; try clear he; clear b
    generalize hgenq : AHeap.put q _ M = M2; obtain ⟨g2, hextq⟩ := gen_ex hgenq hq; have g := hextq _ _ g; have hE := Ext.trans hE hextq; clear hextq hgenq
    refine cond_split (by simp only [go_sem]; try rfl) (fun hc => ?_) (fun hc => ?_)
    · (refine AWp_seq_k (fun K hK => ?_); apply s_region; (iterate 3 (apply s_q; decide; rfl; (simp only [go_sem]; rfl))); apply s_nil; simp only [AThen, ABlock]; refine hK _ _ ?_; clear hK K; apply AWp_ret; simp only [AThen, ABlock]; apply end_ret; rfl; simp only [AFr.get, reduceIte, Nat.reduceEqDiff])
      exact ⟨H, hE, h⟩
    · simp at hc
  | some v =>
    have hG : ∀ (H : AHeap) (K : AV → AHeap → Prop), K (.tup [.agg v.cells, .v (.bool true)]) H → ACall X 36 [.agg j.cells, .s key] H K := hG
    (apply s_call; decide; (simp only [go_sem, g, J.cells_eq v]; rfl); (simp only [go_sem, g, J.cells_eq v]; rfl); refine ACall.args_eq (bs := [.agg j.cells, .s key]) ?_ ?_; (focus (rw [J.cells_eq j]; done)); apply hG; (iterate 3 (apply s_q; decide; rfl; (simp only [go_sem, g, J.cells_eq v]; rfl))); apply s_alloc; decide; exact zc_25; intro b hb; apply s_store; (simp only [go_sem, g, J.cells_eq v]; rfl); (simp only [go_sem, g, J.cells_eq v]; rfl); (simp only [go_sem, g, J.cells_eq v]; rfl); apply s_q; decide; rfl; (simp only [go_sem, g, J.cells_eq v]; rfl); apply s_nil; simp only [AThen, ABlock]; refine hK _ _ ?_; clear hK K; (iterate 2 (refine AWp_seq_k (fun K hK => ?_))); apply s_region; (iterate 2 (apply s_q; decide; rfl; (simp only [go_sem, g, J.cells_eq v]; rfl))); apply s_nil; simp only [AThen, ABlock]; refine hK _ _ ?_; clear hK K)
    obtain ⟨q, hnewq⟩ : ∃ q, q = b := ⟨_, rfl⟩; have hq := hb; rw [← hnewq] at hq ⊢; clear hb hnewq; try clear he; clear b
    generalize hgenq : AHeap.put q _ M = M2; obtain ⟨g2, hextq⟩ := gen_ex hgenq hq; have g := hextq _ _ g; have hE := Ext.trans hE hextq; clear hextq hgenq
    refine cond_split (by simp only [go_sem]; try rfl) (fun hc => ?_) (fun hc => ?_)
    · simp at hc
    · (apply AWp_skip; simp only [AThen, ABlock]; refine hK _ _ ?_; clear hK K; refine AWp_seq_k (fun K hK => ?_); apply s_region; apply s_q; decide; rfl; (simp only [go_sem, g2]; rfl); apply s_call; decide; (simp only [go_sem, g2]; rfl); (simp only [go_sem, g2]; rfl); refine ACall.args_eq (bs := [.agg v.cells]) ?_ ?_; (focus (rw [J.cells_eq v]; done)); apply rnumber_c; (iterate 4 (apply s_q; decide; rfl; (simp only [go_sem, g2]; rfl))); apply s_nil; simp only [AThen, ABlock]; refine hK _ _ ?_; clear hK K; apply AWp_ret)
      exact ⟨H, hE, h⟩
def nameOk (p : List UInt8 → Bool) (o : Option J) : Bool := match o with | none => true | some v => decide (v.kind = 5) && (v.keys.zip v.list).all fun x => levelB x.2 && p x.1
theorem snap_tup {e sz : Nat} {K0 L : AHeap} {es : List (List AV)} {a : AV} {c : Bool} (h : RowAt e sz K0 L es a) (hE : Ext K0 L) : Snap X [.tup [a, .v (.bool c)]] L [.tup [.sl false es, .v (.bool c)]] K0 := by
  rcases h with ⟨rfl, rfl⟩ | ⟨b, h1, rfl, h3⟩
  · exact Snap.trans Snap.loosen (Snap.drop hE)
  · have h5 : Snap X [.tup [.row b sz es.length, .v (.bool c)]] L (AV.snaps b sz es [.tup [.row b sz es.length, .v (.bool c)]]) (L.put b (.row e sz true es)) := Snap.row h3
    simp only [AV.snaps, AV.snap] at h5
    rw [if_pos trivial, if_pos ⟨trivial, Nat.le_refl _⟩, List.take_length] at h5
    exact h5.trans (Snap.drop (Ext.over hE h1))
theorem all_take {α : Type} {l : List α} {i : Nat} {x : α} {p : α → Bool} (h : (l.take i).all p = true) (hx : l[i]? = some x) (hp : p x = true) : (l.take (i + 1)).all p = true := by
  rw [take_succ hx, List.all_append, h]; simp [hp]
theorem all_false {α : Type} {l : List α} {i : Nat} {x : α} {p : α → Bool} (hx : l[i]? = some x) (hp : p x = false) : l.all p = false := by
  rw [Bool.eq_false_iff]; intro h
  rw [List.all_eq_true.1 h x (List.mem_of_getElem? hx)] at hp; cases hp
set_option maxHeartbeats 4000000 in
theorem rnamed_c (j : J) (hl : j.keys.length ≤ 9223372036854775807 ∧ j.list.length ≤ 9223372036854775807) (key : List UInt8) (user : Bool) (hv : ∀ v, jGet j key = some v → goodB 12 v = true ∧ J.Fit v) (H : AHeap) (Kc : AV → AHeap → Prop)
    (h : Kc (.tup [.sl false ((if nameOk (if user = true then isUserB else isType) ((jGet j key).map J.ord) = true then namesR ((jGet j key).map J.ord) else []).map nmCells), .v (.bool (nameOk (if user = true then isUserB else isType) ((jGet j key).map J.ord)))]) H) : ACall X 21 [.agg j.cells, .s key, .v (.bool user)] H Kc := by
  refine ACall.post ?_
  obtain ⟨o, ho⟩ : ∃ o, o = jGet j key := ⟨_, rfl⟩
  have hG : ∀ (H : AHeap) (K : AV → AHeap → Prop), K (getRes o) H → ACall X 36 [.agg j.cells, .s key] H K := fun H K hk => get_c j hl _ H K (by rw [← ho]; exact hk)
  rw [← ho] at h hv
  clear ho
  rw [J.cells_eq]
  refine ACall_intro Tryz.func21 rfl (by kernel_rfl) (by rw [Tryz.ntmps21]; simp) ?_; rw [Tryz.ntmps21]; simp only [frame0, Nat.reduceAdd]
  refine AWp_seq_k (fun K hK => ?_); apply s_region
  apply s_box; decide; exact (by simp only [go_sem]; try rfl); exact (by simp only [go_sem]; try rfl); intro p hp
  ((iterate 2 (apply s_q; decide; rfl; (simp only [go_sem]; rfl))); apply s_nil; simp only [AThen, ABlock]; refine hK _ _ ?_; clear hK K; refine AWp_seq_k (fun K hK => ?_); apply s_region; (iterate 2 (apply s_q; decide; rfl; (simp only [go_sem]; rfl))))
  generalize hgenq : AHeap.put p _ H = M; obtain ⟨g, hextq⟩ := gen_ex hgenq hp; have hE := hextq; clear hextq hgenq
  cases o with
  | none =>
    have hG : ∀ (H : AHeap) (K : AV → AHeap → Prop), K (.tup [.agg (J.mk 0 0 [] [] []).cells, .v (.bool false)]) H → ACall X 36 [.agg j.cells, .s key] H K := hG
    have jz := J.cells_eq (J.mk 0 0 [] [] [])
    (apply s_call; decide; (simp only [go_sem, g, jz]; rfl); (simp only [go_sem, g, jz]; rfl); refine ACall.args_eq (bs := [.agg j.cells, .s key]) ?_ ?_; (focus (rw [J.cells_eq j]; done)); apply hG; (iterate 3 (apply s_q; decide; rfl; (simp only [go_sem, g, jz]; rfl))); apply s_alloc; decide; exact zc_25; intro b hb; apply s_store; (simp only [go_sem, g, jz]; rfl); (simp only [go_sem, g, jz]; rfl); (simp only [go_sem, g, jz]; rfl); apply s_q; decide; rfl; (simp only [go_sem, g, jz]; rfl); apply s_nil; simp only [AThen, ABlock]; refine hK _ _ ?_; clear hK K; (iterate 2 (refine AWp_seq_k (fun K hK => ?_))); apply s_region; (iterate 2 (apply s_q; decide; rfl; (simp only [go_sem, g, jz]; rfl))); apply s_nil; simp only [AThen, ABlock]; refine hK _ _ ?_; clear hK K)
    obtain ⟨q, hnewq⟩ : ∃ q, q = b := ⟨_, rfl⟩; have hq := hb; rw [← hnewq] at hq ⊢; clear hb hnewq; try clear he; clear b
    generalize hgenq : AHeap.put q _ M = M2; obtain ⟨g2, hextq⟩ := gen_ex hgenq hq; have g := hextq _ _ g; have hE := Ext.trans hE hextq; clear hextq hgenq
    refine cond_split (by simp only [go_sem]; try rfl) (fun hc => ?_) (fun hc => ?_)
    · (refine AWp_seq_k (fun K hK => ?_); apply s_region; (iterate 2 (apply s_q; decide; rfl; (simp only [go_sem]; rfl))); apply s_nil; simp only [AThen, ABlock]; refine hK _ _ ?_; clear hK K; apply AWp_ret; simp only [AThen, ABlock]; apply end_ret; rfl; simp only [AFr.get, reduceIte, Nat.reduceEqDiff])
      exact ⟨_, _, Snap.trans Snap.loosen (Snap.drop hE), h⟩
    · simp at hc
  | some v =>
    obtain ⟨v1, v2⟩ := hv v rfl
    have hG : ∀ (H : AHeap) (K : AV → AHeap → Prop), K (.tup [.agg v.cells, .v (.bool true)]) H → ACall X 36 [.agg j.cells, .s key] H K := hG
    (apply s_call; decide; (simp only [go_sem, g, J.cells_eq v]; rfl); (simp only [go_sem, g, J.cells_eq v]; rfl); refine ACall.args_eq (bs := [.agg j.cells, .s key]) ?_ ?_; (focus (rw [J.cells_eq j]; done)); apply hG; (iterate 3 (apply s_q; decide; rfl; (simp only [go_sem, g, J.cells_eq v]; rfl))); apply s_alloc; decide; exact zc_25; intro b hb; apply s_store; (simp only [go_sem, g, J.cells_eq v]; rfl); (simp only [go_sem, g, J.cells_eq v]; rfl); (simp only [go_sem, g, J.cells_eq v]; rfl); apply s_q; decide; rfl; (simp only [go_sem, g, J.cells_eq v]; rfl); apply s_nil; simp only [AThen, ABlock]; refine hK _ _ ?_; clear hK K; (iterate 2 (refine AWp_seq_k (fun K hK => ?_))); apply s_region; (iterate 2 (apply s_q; decide; rfl; (simp only [go_sem, g, J.cells_eq v]; rfl))); apply s_nil; simp only [AThen, ABlock]; refine hK _ _ ?_; clear hK K)
    obtain ⟨q, hnewq⟩ : ∃ q, q = b := ⟨_, rfl⟩; have hq := hb; rw [← hnewq] at hq ⊢; clear hb hnewq; try clear he; clear b
    have hHq : H.get q = none := none_of_ext hE hq
    generalize hgenq : AHeap.put q _ M = M2; obtain ⟨g2, hextq⟩ := gen_ex hgenq hq; have g := hextq _ _ g; have hE := Ext.trans hE hextq; clear hextq hgenq
    refine cond_split (by simp only [go_sem]; try rfl) (fun hc => ?_) (fun hc => ?_)
    · simp at hc
    clear hc
    (apply AWp_skip; simp only [AThen, ABlock]; refine hK _ _ ?_; clear hK K; (iterate 2 (refine AWp_seq_k (fun K hK => ?_))); apply s_region; (iterate 3 (apply s_q; decide; rfl; (simp only [go_sem, g2]; rfl))); apply s_nil; simp only [AThen, ABlock]; refine hK _ _ ?_; clear hK K)
    have hko : v.ord.kind = v.kind := by rw [ord_eq]; split <;> simp_all [J.kind]
    refine cond_split (by simp only [go_sem]; try rfl) (fun hc => ?_) (fun hc => ?_)
    · have h5 : ¬ v.kind = 5 := by simpa using hc
      have hn : nameOk (if user = true then isUserB else isType) (some v.ord) = false := by simp [nameOk, hko, h5]
      have h : Kc (.tup [.sl false ((if nameOk (if user = true then isUserB else isType) (some v.ord) = true then namesR (some v.ord) else []).map nmCells), .v (.bool (nameOk (if user = true then isUserB else isType) (some v.ord)))]) H := h
      rw [hn] at h
      (refine AWp_seq_k (fun K hK => ?_); apply s_region; (iterate 2 (apply s_q; decide; rfl; (simp only [go_sem]; rfl))); apply s_nil; simp only [AThen, ABlock]; refine hK _ _ ?_; clear hK K; apply AWp_ret; simp only [AThen, ABlock]; apply end_ret; rfl; simp only [AFr.get, reduceIte, Nat.reduceEqDiff])
      exact ⟨_, _, Snap.trans Snap.loosen (Snap.drop hE), h⟩
    have h5 : v.kind = 5 := by simpa using hc
    obtain ⟨w, hw⟩ : ∃ w, w = v.ord := ⟨_, rfl⟩
    have h : Kc (.tup [.sl false ((if nameOk (if user = true then isUserB else isType) (some v.ord) = true then namesR (some v.ord) else []).map nmCells), .v (.bool (nameOk (if user = true then isUserB else isType) (some v.ord)))]) H := h
    have hOrd : ∀ (H : AHeap) (K : AV → AHeap → Prop), K (.agg [.v (.int .i64 w.kind), .v (.int .i64 w.int), .s w.text, .sl false (w.keys.map strCells), .sl false (w.list.map J.cells)]) H → ACall X 38 [.agg v.cells] H K := fun H K hk => rOrder_c v v2 (by rw [if_pos v1, ← hw, J.cells_eq]; exact hk)
    have hwl : w.keys.length = w.list.length ∧ w.keys.length ≤ 1000000000 := by
      have f := (fit_eq.1 v2).1
      rw [hw, ord_eq, if_pos h5]
      refine ⟨by simp [J.keys, J.list], ?_⟩
      simp only [J.keys, List.length_map, places_len]; exact f.1
    have hw5 : w.kind = 5 := by rw [hw, hko, h5]
    have hkw : ∀ k ∈ w.keys, k.length ≤ 4611686018427387904 := fun k hk => by
      rw [hw, ord_eq, if_pos h5] at hk
      simp only [J.keys, List.mem_map] at hk
      obtain ⟨i, hi, rfl⟩ := hk
      have hlt := places_lt hi
      rw [List.getD_eq_getElem?_getD, List.getElem?_eq_getElem hlt]
      exact (fit_eq.1 v2).2.2.1 _ (List.getElem_mem hlt)
    rw [← hw] at h
    clear hw hko
    (apply AWp_skip; simp only [AThen, ABlock]; refine hK _ _ ?_; clear hK K; refine AWp_seq_k (fun K hK => ?_); apply s_region; apply s_q; decide; rfl; (simp only [go_sem, g2]; rfl); apply s_call; decide; (simp only [go_sem, g2]; rfl); (simp only [go_sem, g2]; rfl); refine ACall.args_eq (bs := [.agg v.cells]) ?_ ?_; (focus (rw [J.cells_eq v]; done)); apply hOrd; apply s_store; (simp only [go_sem, g2]; rfl); (simp only [go_sem, g2]; rfl); (simp only [go_sem, g2]; rfl); apply s_nil; simp only [AThen, ABlock]; refine hK _ _ ?_; clear hK K; refine AWp_seq_k (fun K hK => ?_); apply s_region; apply s_q; decide; rfl; (simp only [go_sem, g2]; rfl); apply s_nil; simp only [AThen, ABlock]; refine hK _ _ ?_; clear hK K; (iterate 2 (refine AWp_seq_k (fun K hK => ?_))); apply s_region; apply s_q; decide; rfl; (simp only [go_sem, g2]; rfl); apply s_nil; simp only [AThen, ABlock]; refine hK _ _ ?_; clear hK K; apply AWp_block)
    have hE3 := hE.over hHq (o := jbox w.kind w.int w.text (.sl false (w.keys.map strCells)) (.sl false (w.list.map J.cells)))
    have g3 := AHeap.get_put_same q (jbox w.kind w.int w.text (.sl false (w.keys.map strCells)) (.sl false (w.list.map J.cells))) M2
    generalize AHeap.put q (jbox w.kind w.int w.text (.sl false (w.keys.map strCells)) (.sl false (w.list.map J.cells))) M2 = M3 at hE3 g3 ⊢
    obtain ⟨pr, hpr⟩ : ∃ pr, pr = (if user = true then isUserB else isType) := ⟨_, rfl⟩
    rw [← hpr] at h
    obtain ⟨z, hz⟩ : ∃ z, z = w.keys.zip w.list := ⟨_, rfl⟩
    have hzl : z.length = w.keys.length := by rw [hz, List.length_zip]; omega
    obtain ⟨okp, hokp⟩ : ∃ okp : List UInt8 × J → Bool, okp = fun x => levelB x.2 && pr x.1 := ⟨_, rfl⟩
    have hnok : nameOk pr (some w) = z.all okp := by rw [hz, hokp]; simp [nameOk, hw5]
    have hnr : namesR (some w) = namesL z := by rw [hz]; rfl
    rw [hnok, hnr] at h
    clear hE g2
    refine AWp_loop_s (σ := Nat × AV × AHeap) [2, 8, 10, 11] (fun s => [.v (.bool user), ptrTo q, s.2.1, .v (.int .i64 ((s.1 : Nat) : Int))]) (fun s => s.2.2) (fun s => w.keys.length - s.1)
      (fun s => s.1 ≤ w.keys.length ∧ s.2.2.get q = some (jbox w.kind w.int w.text (.sl false (w.keys.map strCells)) (.sl false (w.list.map J.cells))) ∧ Ext H s.2.2 ∧ RowAt 58 2 H s.2.2 ((namesL (z.take s.1)).map nmCells) s.2.1 ∧ (z.take s.1).all okp = true)
      (0, .sl true [], M3) ⟨Nat.zero_le _, g3, hE3, RowAt.nil _ _ _ _, by simp⟩ rfl rfl (fun s hs => ?_)
    obtain ⟨n, a, L⟩ := s
    obtain ⟨hn, hqL, hE, hR, hall⟩ := hs
    clear g3 hE3
    simp only [List.zip_cons_cons, List.zip_nil_right] at hn hqL hE hR hall ⊢
    ((iterate 2 (refine AWp_seq_k (fun K hK => ?_))); apply s_region; (iterate 5 (apply s_q; decide; rfl; (simp only [go_sem, hqL]; rfl))); apply s_nil; simp only [AThen, ABlock]; refine hK _ _ ?_; clear hK K)
    refine cond_split (by simp only [go_sem]; try rfl) (fun hd => ?_) (fun hd => ?_)
    · have hlt : n < w.keys.length := by simpa using hd
      obtain ⟨ky, hky⟩ := gete hlt
      have hgk := jstr_at hky
      obtain ⟨x, hx⟩ := gete (l := w.list) (i := n) (by omega)
      have hgx := jget_at hx
      have hzn : z[n]? = some (ky, x) := by rw [hz, List.getElem?_zip_eq_some]; exact ⟨hky, hx⟩
      have hkyl := hkw ky (List.mem_of_getElem? hky)
      have e1 : namesL (z.take (n + 1)) = namesL (z.take n) ++ [(ky, x.int)] := by rw [take_succ hzn, namesL, List.map_append]; rfl
      have hul : (namesL (z.take n)).length ≤ 1000000000 := by rw [namesL, List.length_map, List.length_take]; omega
      have hU : ∀ (H : AHeap) (K : AV → AHeap → Prop), K (.v (.bool (isUserB ky))) H → ACall X 29 [.s ky] H K := fun H K hk => risUser4_c ky hkyl H K hk
      have hTy : ∀ (H : AHeap) (K : AV → AHeap → Prop), K (.v (.bool (isType ky))) H → ACall X 28 [.s ky] H K := fun H K hk => rtype4_c ky hkyl H K hk
      apply AWp_skip; simp only [AThen, ABlock]; refine hK _ _ ?_; clear hK K
      refine AWp_seq_k (fun K hK => ?_)
      apply AWp_block
      refine AWp_seq_k (fun K hK => ?_); apply s_region
      ((iterate 5 (apply s_q; decide; rfl; (simp only [go_sem, hqL, hgx]; rfl))); apply s_call; decide; (simp only [go_sem, hqL, hgx]; rfl); (simp only [go_sem, hqL, hgx]; rfl); refine ACall.args_eq (bs := [.agg x.cells]) ?_ ?_; (focus (rw [J.cells_eq x]; done)); apply rnumber_c x; (iterate 5 (apply s_q; decide; rfl; (simp only [go_sem, hqL, hgx]; rfl))))
      apply s_nil; simp only [AThen, ABlock]; refine hK _ _ ?_; clear hK K
      refine AWp_seq_k (fun K0 hK0 => ?_)
      have hgo : ∀ fr, getAll [2, 8, 10, 11, 12, 13] fr = [.v (.bool user), ptrTo q, a, .v (.int .i64 ((n : Nat) : Int)), .v (.int .i64 x.int), .v (.bool (if levelB x = true then pr ky else false))] → K0 fr L := fun fr hfr => by
        refine hK0 _ _ (AWp_cut _ hfr ?_)
        simp only [List.zip_cons_cons, List.zip_nil_right]
        clear hK0
        ((iterate 2 (refine AWp_seq_k (fun K hK => ?_))); apply s_region; (iterate 2 (apply s_q; decide; rfl; (simp only [go_sem]; rfl))); apply s_nil; simp only [AThen, ABlock]; refine hK _ _ ?_; clear hK K)
        refine cond_split (by simp only [go_sem]; try rfl) (fun hf => ?_) (fun hf => ?_)
        · have hbad : z.all okp = false := all_false hzn (by rw [hokp]; cases hx : levelB x <;> simp [hx] at hf ⊢; exact hf)
          rw [hbad] at h
          (refine AWp_seq_k (fun K hK => ?_); apply s_region; (iterate 2 (apply s_q; decide; rfl; (simp only [go_sem]; rfl))); apply s_nil; simp only [AThen, ABlock]; refine hK _ _ ?_; clear hK K; apply AWp_ret; simp only [AThen, ABlock]; apply end_ret; rfl; simp only [AFr.get, reduceIte, Nat.reduceEqDiff])
          exact ⟨_, _, Snap.trans Snap.loosen (Snap.drop hE), h⟩
        · have hgood : okp (ky, x) = true := by rw [hokp]; cases hx : levelB x <;> simp [hx] at hf ⊢; exact hf
          (apply AWp_skip; simp only [AThen, ABlock]; refine hK _ _ ?_; clear hK K; apply s_region; (iterate 8 (apply s_q; decide; rfl; (simp only [go_sem, hqL, hgk]; rfl))); apply s_lit; decide; exact el_27; (simp only [go_sem, hqL, hgk]; rfl); (simp only [go_sem, hqL, hgk]; rfl); decide; apply s_append; decide; (simp only [go_sem, hqL, hgk]; rfl); (simp only [go_sem, hqL, hgk]; rfl); apply AApp_at el_27 hE hR (l := namesL (z.take n)) (m := [(ky, x.int)]) (g := nmCells) rfl rfl tk_27 nm_one (by simp; omega) (by simp; omega); intro s2 L3 r1 r2 r3; apply s_q; decide; rfl; (simp only [go_sem, hqL, hgk]; rfl); apply s_nil; simp only [AThen, ABlock]; refine hK _ _ ?_; clear hK K; apply s_region; (iterate 3 (apply s_q; decide; rfl; (simp only [go_sem, hqL, hgk]; rfl))); apply s_nil; simp only [AThen, ABlock])
          refine ⟨(n + 1, s2, L3), by simp only; omega, ⟨by simp only; omega, r3 q _ hqL (fun _ _ _ h => by cases h), r2, by simp only [e1]; exact r1, all_take hall hzn hgood⟩, ?_, by trivial⟩
          simp only [getAll, List.map_cons, List.map_nil, AFr.get, reduceIte, Nat.reduceEqDiff]
          rw [wrapS hlt (by omega)]; try rfl
      clear hK0
      (refine AWp_seq_k (fun K hK => ?_); apply s_region; apply s_q; decide; rfl; (simp only [go_sem]; rfl); apply s_nil; simp only [AThen, ABlock]; refine hK _ _ ?_; clear hK K)
      refine cond_split (by simp only [go_sem]; try rfl) (fun hu => ?_) (fun hu => ?_)
      · subst hu
        rw [if_pos rfl] at hpr
        subst hpr
        (apply s_region; (iterate 2 (apply s_q; decide; rfl; (simp only [go_sem, hqL]; rfl))); apply s_spec; decide; rfl; rfl; (simp only [go_sem, hqL]; rfl); (simp only [go_sem, hqL]; rfl); (simp only [go_sem, hqL]; rfl); (simp only [go_sem, hqL]; rfl); trivial; apply s_spec; decide; rfl; rfl; (simp only [go_sem, hqL]; rfl); (simp only [go_sem, hqL]; rfl); (simp only [go_sem, hqL]; rfl); (simp only [go_sem, hqL]; rfl); simp [condsOk]; apply s_spec; decide; rfl; rfl; (simp only [go_sem, hqL]; rfl); (simp only [go_sem, hqL]; rfl); (simp only [go_sem, hqL]; rfl); (simp only [go_sem, hqL]; rfl); trivial; apply s_when; decide; (simp only [go_sem, hqL]; rfl); (simp only [go_sem, hqL]; rfl); (simp only [go_sem, hqL]; rfl); simp [condsOk]; (intro hg; simp only [go_sem, hqL, hgk]; try rfl); apply s_spec; decide; rfl; rfl; (simp only [go_sem, hqL]; rfl); (simp only [go_sem, hqL]; rfl); (simp only [go_sem, hqL]; rfl); (simp only [go_sem, hqL]; rfl); simp [condsOk]; apply s_gpure; decide; (simp only [go_sem, hqL]; rfl); (simp only [go_sem, hqL]; rfl); (simp only [go_sem, hqL]; rfl); simp [condsOk]; (simp only [go_sem, hqL]; rfl); (simp only [go_sem, hqL]; rfl); (apply hU; exact ⟨rfl, rfl⟩); apply s_pick; decide; (simp only [go_sem, hqL]; rfl); (simp only [go_sem, hqL]; rfl); (simp only [go_sem, hqL]; rfl); (simp only [go_sem, hqL]; rfl); (simp only [go_sem, hqL]; rfl); (simp only [go_sem, hqL]; rfl); trivial; simp [condsOk]; trivial; apply s_q; decide; rfl; (simp only [go_sem, hqL]; rfl); apply s_nil; simp only [AThen, ABlock])
        exact hgo _ rfl
      · subst hu
        rw [if_neg (by decide)] at hpr
        subst hpr
        (apply s_region; (iterate 2 (apply s_q; decide; rfl; (simp only [go_sem, hqL]; rfl))); apply s_spec; decide; rfl; rfl; (simp only [go_sem, hqL]; rfl); (simp only [go_sem, hqL]; rfl); (simp only [go_sem, hqL]; rfl); (simp only [go_sem, hqL]; rfl); trivial; apply s_spec; decide; rfl; rfl; (simp only [go_sem, hqL]; rfl); (simp only [go_sem, hqL]; rfl); (simp only [go_sem, hqL]; rfl); (simp only [go_sem, hqL]; rfl); simp [condsOk]; apply s_spec; decide; rfl; rfl; (simp only [go_sem, hqL]; rfl); (simp only [go_sem, hqL]; rfl); (simp only [go_sem, hqL]; rfl); (simp only [go_sem, hqL]; rfl); trivial; apply s_when; decide; (simp only [go_sem, hqL]; rfl); (simp only [go_sem, hqL]; rfl); (simp only [go_sem, hqL]; rfl); simp [condsOk]; (intro hg; simp only [go_sem, hqL, hgk]; try rfl); apply s_spec; decide; rfl; rfl; (simp only [go_sem, hqL]; rfl); (simp only [go_sem, hqL]; rfl); (simp only [go_sem, hqL]; rfl); (simp only [go_sem, hqL]; rfl); simp [condsOk]; apply s_gpure; decide; (simp only [go_sem, hqL]; rfl); (simp only [go_sem, hqL]; rfl); (simp only [go_sem, hqL]; rfl); simp [condsOk]; (simp only [go_sem, hqL]; rfl); (simp only [go_sem, hqL]; rfl); (apply hTy; exact ⟨rfl, rfl⟩); apply s_pick; decide; (simp only [go_sem, hqL]; rfl); (simp only [go_sem, hqL]; rfl); (simp only [go_sem, hqL]; rfl); (simp only [go_sem, hqL]; rfl); (simp only [go_sem, hqL]; rfl); (simp only [go_sem, hqL]; rfl); trivial; simp [condsOk]; trivial; apply s_q; decide; rfl; (simp only [go_sem, hqL]; rfl); apply s_nil; simp only [AThen, ABlock])
        exact hgo _ rfl
    · have hge : z.length ≤ n := by simp at hd; omega
      rw [List.take_of_length_le hge] at hall hR
      rw [hall] at h
      (apply AWp_exit; simp only [AThen, ABlock, reduceIte, Nat.reduceEqDiff]; clear hK K; refine hK _ _ ?_; clear hK K; refine AWp_seq_k (fun K hK => ?_); apply s_region; (iterate 3 (apply s_q; decide; rfl; (simp only [go_sem]; rfl))); apply s_nil; simp only [AThen, ABlock]; refine hK _ _ ?_; clear hK K; apply AWp_ret)
      exact ⟨_, _, snap_tup hR hE, h⟩
theorem numB_eq (o : Option J) (b : Bool) : numB o b = (b || !tellB o) := by
  cases o with
  | none => simp [numB, tellB]
  | some v => cases b <;> simp [numB, tellB]
theorem namesB_eq (p : List UInt8 → Bool) : ∀ (l : List (List UInt8 × J)) (b : Bool), namesB p b l = (b || !(l.all fun x => levelB x.2 && p x.1))
  | [], b => by simp [namesB]
  | x :: l, b => by
    show namesB p (if (if b = true then true else !levelB x.2) = true then true else !p x.1) l = _
    rw [namesB_eq p l, List.all_cons]
    generalize (l.all fun x => levelB x.2 && p x.1) = c
    generalize levelB x.2 = d
    generalize p x.1 = e
    revert b c d e
    decide
theorem namesBad_eq (p : List UInt8 → Bool) (o : Option J) (b : Bool) : namesBad p o b = (b || !nameOk p o) := by
  cases o with
  | none => simp [namesBad, nameOk]
  | some v =>
    show namesB p (if b = true then true else !decide (v.kind = 5)) (v.keys.zip v.list) = (b || !(decide (v.kind = 5) && _))
    rw [namesB_eq]
    generalize (v.keys.zip v.list).all (fun x => levelB x.2 && p x.1) = c
    generalize decide (v.kind = 5) = d
    revert b c d
    decide
theorem ord_kind (v : J) : v.ord.kind = v.kind := by
  rw [ord_eq]; split
  · rename_i h; rw [h]; rfl
  · rfl
theorem ord_int (v : J) : v.ord.int = v.int := by
  rw [ord_eq]; split <;> rfl
theorem tellB_ord (o : Option J) : tellB (o.map J.ord) = tellB o := by
  cases o with
  | none => rfl
  | some v => simp only [Option.map_some, tellB, levelB, ord_kind, ord_int]
theorem numR_ord (o : Option J) (n : Int) : numR (o.map J.ord) n = numR o n := by
  cases o with
  | none => rfl
  | some v => simp only [Option.map_some, numR, ord_int]
def docOk (j : J) : Bool := tellB (jGet j ([98, 97, 110] : List UInt8)) && tellB (jGet j ([107, 105, 99, 107] : List UInt8)) && tellB (jGet j ([105, 110, 118, 105, 116, 101] : List UInt8)) && tellB (jGet j ([114, 101, 100, 97, 99, 116] : List UInt8)) &&
  tellB (jGet j ([115, 116, 97, 116, 101, 95, 100, 101, 102, 97, 117, 108, 116] : List UInt8)) && tellB (jGet j ([101, 118, 101, 110, 116, 115, 95, 100, 101, 102, 97, 117, 108, 116] : List UInt8)) && tellB (jGet j ([117, 115, 101, 114, 115, 95, 100, 101, 102, 97, 117, 108, 116] : List UInt8)) &&
  nameOk isUserB ((jGet j ([117, 115, 101, 114, 115] : List UInt8)).map J.ord) && nameOk isType ((jGet j ([101, 118, 101, 110, 116, 115] : List UInt8)).map J.ord)
def docLv (j : J) : Lv := ⟨numR (jGet j ([98, 97, 110] : List UInt8)) 50, numR (jGet j ([107, 105, 99, 107] : List UInt8)) 50, numR (jGet j ([105, 110, 118, 105, 116, 101] : List UInt8)) 0, numR (jGet j ([114, 101, 100, 97, 99, 116] : List UInt8)) 50,
  numR (jGet j ([115, 116, 97, 116, 101, 95, 100, 101, 102, 97, 117, 108, 116] : List UInt8)) 50, numR (jGet j ([101, 118, 101, 110, 116, 115, 95, 100, 101, 102, 97, 117, 108, 116] : List UInt8)) 0, numR (jGet j ([117, 115, 101, 114, 115, 95, 100, 101, 102, 97, 117, 108, 116] : List UInt8)) 0,
  namesR ((jGet j ([117, 115, 101, 114, 115] : List UInt8)).map J.ord), namesR ((jGet j ([101, 118, 101, 110, 116, 115] : List UInt8)).map J.ord)⟩
theorem lvParse_doc {c : J} (h5 : c.kind = 5) (hg : goodB 12 c = true) : lvParse c = if docOk c = true then some (docLv c) else none := by
  rw [lvParse_look h5 hg]
  unfold lvOf
  simp only [numB_eq, namesBad_eq, tellB_ord, numR_ord]
  unfold docOk docLv
  generalize tellB (jGet c ([98, 97, 110] : List UInt8)) = t1
  generalize tellB (jGet c ([107, 105, 99, 107] : List UInt8)) = t2
  generalize tellB (jGet c ([105, 110, 118, 105, 116, 101] : List UInt8)) = t3
  generalize tellB (jGet c ([114, 101, 100, 97, 99, 116] : List UInt8)) = t4
  generalize tellB (jGet c ([115, 116, 97, 116, 101, 95, 100, 101, 102, 97, 117, 108, 116] : List UInt8)) = t5
  generalize tellB (jGet c ([101, 118, 101, 110, 116, 115, 95, 100, 101, 102, 97, 117, 108, 116] : List UInt8)) = t6
  generalize tellB (jGet c ([117, 115, 101, 114, 115, 95, 100, 101, 102, 97, 117, 108, 116] : List UInt8)) = t7
  generalize nameOk isUserB ((jGet c ([117, 115, 101, 114, 115] : List UInt8)).map J.ord) = t8
  generalize nameOk isType ((jGet c ([101, 118, 101, 110, 116, 115] : List UInt8)).map J.ord) = t9
  have e : (false || !t1 || !t2 || !t3 || !t4 || !t5 || !t6 || !t7 || !t8 || !t9) = !(t1 && t2 && t3 && t4 && t5 && t6 && t7 && t8 && t9) := by revert t1 t2 t3 t4 t5 t6 t7 t8 t9; decide
  rw [e]
  cases (t1 && t2 && t3 && t4 && t5 && t6 && t7 && t8 && t9) <;> rfl
theorem jGet_mem {j v : J} {k : List UInt8} (h : jGet j k = some v) : v ∈ j.list := by
  rw [jGet] at h
  split at h
  · rw [Option.map_eq_some_iff] at h
    obtain ⟨p, hp, rfl⟩ := h
    exact (List.of_mem_zip (List.mem_of_find?_eq_some hp)).2
  · cases h
theorem good_mono : ∀ {n : Nat} {j : J}, goodB n j = true → goodB (n + 1) j = true := fun {n} => by
  induction n with
  | zero => intro j h; cases h
  | succ n ih =>
    intro j h
    rw [goodB] at h ⊢
    simp only [Bool.and_eq_true, List.all_eq_true] at h ⊢
    exact ⟨h.1, fun x hx => ih (h.2 x hx)⟩
set_option maxHeartbeats 4000000 in
theorem rparse_c (j : J) (hf : J.Fit j) (H : AHeap) (Kc : AV → AHeap → Prop) (h : Kc (lvRes (lvParse j)) H) : ACall X 7 [.agg j.cells] H Kc := by
  refine ACall.post ?_
  have hcl : j.keys.length ≤ 9223372036854775807 ∧ j.list.length ≤ 9223372036854775807 := by have := (fit_eq.1 hf).1; omega
  rw [J.cells_eq]
  refine ACall_intro Tryz.func7 rfl (by kernel_rfl) (by rw [Tryz.ntmps7]; simp) ?_; rw [Tryz.ntmps7]; simp only [frame0, Nat.reduceAdd]
  refine AWp_seq_k (fun K hK => ?_); apply s_region
  apply s_box; decide; exact (by simp only [go_sem]; try rfl); exact (by simp only [go_sem]; try rfl); intro p hp
  apply s_alloc; decide; exact zc_levels; intro r hr
  (apply s_q; decide; rfl; (simp only [go_sem]; rfl); apply s_nil; simp only [AThen, ABlock]; refine hK _ _ ?_; clear hK K; (iterate 2 (refine AWp_seq_k (fun K hK => ?_))); apply s_region; apply s_q; decide; rfl; (simp only [go_sem]; rfl))
  generalize hgenq : AHeap.put p _ H = M1 at hr ⊢; obtain ⟨g1, hextq⟩ := gen_ex hgenq hp; have hE := hextq; clear hextq hgenq
  have hHr : H.get r = none := none_of_ext hE hr
  generalize hgenq : AHeap.put r _ M1 = M; obtain ⟨g2, hextq⟩ := gen_ex hgenq hr; have g1 := hextq _ _ g1; have hE := Ext.trans hE hextq; clear hextq hgenq
  ((iterate 3 (apply s_q; decide; rfl; (simp only [go_sem, g1]; rfl))); apply s_spec; decide; rfl; rfl; (simp only [go_sem, g1]; rfl); (simp only [go_sem, g1]; rfl); (simp only [go_sem, g1]; rfl); (simp only [go_sem, g1]; rfl); trivial; apply s_gpure; decide; (simp only [go_sem, g1]; rfl); (simp only [go_sem, g1]; rfl); (simp only [go_sem, g1]; rfl); simp [condsOk]; (simp only [go_sem, g1]; rfl); (simp only [go_sem, g1]; rfl); (refine ACall.args_eq (bs := [.agg j.cells]) ?_ ?_; (focus (rw [J.cells_eq j]; done)); apply rGood_c j _ _ hf; exact ⟨rfl, rfl⟩); apply s_spec; decide; rfl; rfl; (simp only [go_sem, g1]; rfl); (simp only [go_sem, g1]; rfl); (simp only [go_sem, g1]; rfl); (simp only [go_sem, g1]; rfl); simp [condsOk]; apply s_pick; decide; (simp only [go_sem, g1]; rfl); (simp only [go_sem, g1]; rfl); (simp only [go_sem, g1]; rfl); (simp only [go_sem, g1]; rfl); (simp only [go_sem, g1]; rfl); (simp only [go_sem, g1]; rfl); trivial; trivial; simp [condsOk]; apply s_nil; simp only [AThen, ABlock]; refine hK _ _ ?_; clear hK K)
  refine cond_split (by simp only [go_sem]; try rfl) (fun hc => ?_) (fun hc => ?_)
  · have hn : lvParse j = none := by
      rw [lvParse]
      by_cases h5 : j.kind = 5
      · rw [if_pos h5, if_neg (by simpa [h5] using hc)]
      · rw [if_neg h5]
    rw [hn] at h
    (refine AWp_seq_k (fun K hK => ?_); apply s_region; apply s_q; decide; rfl; (simp only [go_sem, zc_levels, g2]; rfl); apply s_store; (simp only [go_sem, zc_levels, g2]; rfl); (simp only [go_sem, zc_levels, g2]; rfl); (simp only [go_sem, zc_levels, g2]; rfl); apply s_q; decide; rfl; (simp only [go_sem, zc_levels, g2]; rfl); apply s_nil; simp only [AThen, ABlock]; refine hK _ _ ?_; clear hK K; apply AWp_ret)
    try simp only [AThen, ABlock]
    refine end_ret (av := .tup [.agg [.v (.int .i64 0), .v (.int .i64 0), .v (.int .i64 0), .v (.int .i64 0), .v (.int .i64 0), .v (.int .i64 0), .v (.int .i64 0), .sl true [], .sl true []], .v (.int .i64 1)]) (by show resAV X.P _ _ [.cell 2 29, .tmp 3] = _; simp only [go_sem]; try rfl) ⟨_, _, Snap.trans Snap.loosen (Snap.drop (hE.over hHr)), h⟩
  have hc' : j.kind = 5 ∧ goodB 12 j = true := by
    by_cases h5 : j.kind = 5
    · refine ⟨h5, ?_⟩; simpa [h5] using hc
    · simp [h5] at hc
  obtain ⟨h5, hg⟩ := hc'
  rw [lvParse_doc h5 hg] at h
  have hv : ∀ k v, jGet j k = some v → goodB 12 v = true ∧ J.Fit v := fun k v hkv => by
    have hm := jGet_mem hkv
    refine ⟨?_, (fit_eq.1 hf).2.2.2 v hm⟩
    rw [goodB] at hg
    simp only [Bool.and_eq_true, List.all_eq_true] at hg
    exact good_mono (hg.2 v hm)
  apply AWp_skip; simp only [AThen, ABlock]; refine hK _ _ ?_; clear hK K
  refine AWp_seq_k (fun K hK => ?_); apply s_region
  apply s_alloc; decide; exact zc_levels; intro l hl
  apply s_nil; simp only [AThen, ABlock]; refine hK _ _ ?_; clear hK K
  have hpl := get_ne_fresh g1 hl
  have hrl := get_ne_fresh g2 hl
  have hHl : H.get l = none := none_of_ext hE hl
  generalize hgenq : AHeap.put l _ M = M2; obtain ⟨g3, hextq⟩ := gen_ex hgenq hl; have g1 := hextq _ _ g1; have g2 := hextq _ _ g2; have hE := Ext.trans hE hextq; clear hextq hgenq
  have g1l : ∀ x, (M2.put l x).get p = some (jbox j.kind j.int j.text (.sl false (j.keys.map strCells)) (.sl false (j.list.map J.cells))) := fun x => get_other g1 hpl
  have hT : ∀ (key : List UInt8) (n : Int) (H : AHeap) (K : AV → AHeap → Prop), K (.tup [.v (.int .i64 (numR (jGet j key) n)), .v (.bool (tellB (jGet j key)))]) H → ACall X 20 [.agg [.v (.int .i64 j.kind), .v (.int .i64 j.int), .s j.text, .sl false (j.keys.map strCells), .sl false (j.list.map J.cells)], .s key, .v (.int .i64 n)] H K := fun key n H K hk => by
    rw [← J.cells_eq]; exact told_c j hcl key n H K hk
  have hN : ∀ (key : List UInt8) (user : Bool) (H : AHeap) (K : AV → AHeap → Prop), K (.tup [.sl false ((if nameOk (if user = true then isUserB else isType) ((jGet j key).map J.ord) = true then namesR ((jGet j key).map J.ord) else []).map nmCells), .v (.bool (nameOk (if user = true then isUserB else isType) ((jGet j key).map J.ord)))]) H →
      ACall X 21 [.agg [.v (.int .i64 j.kind), .v (.int .i64 j.int), .s j.text, .sl false (j.keys.map strCells), .sl false (j.list.map J.cells)], .s key, .v (.bool user)] H K := fun key user H K hk => by
    rw [← J.cells_eq]; exact rnamed_c j hcl key user (hv key) H K hk
  (refine AWp_seq_k (fun K hK => ?_); apply s_region; (iterate 9 (apply s_q; decide; rfl; (simp only [go_sem, g1, g3, g1l]; rfl))); apply s_nil; simp only [AThen, ABlock]; refine hK _ _ ?_; clear hK K; refine AWp_seq_k (fun K hK => ?_); apply s_region; apply s_q; decide; rfl; (simp only [go_sem, g1, g3, g1l]; rfl); apply s_call; decide; (simp only [go_sem, g1, g3, g1l]; rfl); (simp only [go_sem, g1, g3, g1l]; rfl); apply hT; (iterate 4 (apply s_q; decide; rfl; (simp only [go_sem, g1, g3, g1l]; rfl))); apply s_store; (simp only [go_sem, g1, g3, g1l]; rfl); (simp only [go_sem, g1, g3, g1l]; rfl); (simp only [go_sem, g1, g3, g1l]; rfl); apply s_q; decide; rfl; (simp only [go_sem, g1, g3, g1l]; rfl); apply s_nil; simp only [AThen, ABlock]; refine hK _ _ ?_; clear hK K; refine AWp_seq_k (fun K hK => ?_); apply s_region; apply s_q; decide; rfl; (simp only [go_sem, g1, g3, g1l]; rfl); apply s_call; decide; (simp only [go_sem, g1, g3, g1l]; rfl); (simp only [go_sem, g1, g3, g1l]; rfl); apply hT; (iterate 4 (apply s_q; decide; rfl; (simp only [go_sem, g1, g3, g1l]; rfl))); apply s_store; (simp only [go_sem, g1, g3, g1l]; rfl); (simp only [go_sem, g1, g3, g1l]; rfl); (simp only [go_sem, g1, g3, g1l]; rfl); apply s_q; decide; rfl; (simp only [go_sem, g1, g3, g1l]; rfl); apply s_nil; simp only [AThen, ABlock]; refine hK _ _ ?_; clear hK K; refine AWp_seq_k (fun K hK => ?_); apply s_region; apply s_q; decide; rfl; (simp only [go_sem, g1, g3, g1l]; rfl); apply s_call; decide; (simp only [go_sem, g1, g3, g1l]; rfl); (simp only [go_sem, g1, g3, g1l]; rfl); apply hT; (iterate 4 (apply s_q; decide; rfl; (simp only [go_sem, g1, g3, g1l]; rfl))); apply s_store; (simp only [go_sem, g1, g3, g1l]; rfl); (simp only [go_sem, g1, g3, g1l]; rfl); (simp only [go_sem, g1, g3, g1l]; rfl); apply s_q; decide; rfl; (simp only [go_sem, g1, g3, g1l]; rfl); apply s_nil; simp only [AThen, ABlock]; refine hK _ _ ?_; clear hK K; refine AWp_seq_k (fun K hK => ?_); apply s_region; apply s_q; decide; rfl; (simp only [go_sem, g1, g3, g1l]; rfl); apply s_call; decide; (simp only [go_sem, g1, g3, g1l]; rfl); (simp only [go_sem, g1, g3, g1l]; rfl); apply hT; (iterate 4 (apply s_q; decide; rfl; (simp only [go_sem, g1, g3, g1l]; rfl))); apply s_store; (simp only [go_sem, g1, g3, g1l]; rfl); (simp only [go_sem, g1, g3, g1l]; rfl); (simp only [go_sem, g1, g3, g1l]; rfl); apply s_q; decide; rfl; (simp only [go_sem, g1, g3, g1l]; rfl); apply s_nil; simp only [AThen, ABlock]; refine hK _ _ ?_; clear hK K; refine AWp_seq_k (fun K hK => ?_); apply s_region; apply s_q; decide; rfl; (simp only [go_sem, g1, g3, g1l]; rfl); apply s_call; decide; (simp only [go_sem, g1, g3, g1l]; rfl); (simp only [go_sem, g1, g3, g1l]; rfl); apply hT; (iterate 4 (apply s_q; decide; rfl; (simp only [go_sem, g1, g3, g1l]; rfl))); apply s_store; (simp only [go_sem, g1, g3, g1l]; rfl); (simp only [go_sem, g1, g3, g1l]; rfl); (simp only [go_sem, g1, g3, g1l]; rfl); apply s_q; decide; rfl; (simp only [go_sem, g1, g3, g1l]; rfl); apply s_nil; simp only [AThen, ABlock]; refine hK _ _ ?_; clear hK K; refine AWp_seq_k (fun K hK => ?_); apply s_region; apply s_q; decide; rfl; (simp only [go_sem, g1, g3, g1l]; rfl); apply s_call; decide; (simp only [go_sem, g1, g3, g1l]; rfl); (simp only [go_sem, g1, g3, g1l]; rfl); apply hT; (iterate 4 (apply s_q; decide; rfl; (simp only [go_sem, g1, g3, g1l]; rfl))); apply s_store; (simp only [go_sem, g1, g3, g1l]; rfl); (simp only [go_sem, g1, g3, g1l]; rfl); (simp only [go_sem, g1, g3, g1l]; rfl); apply s_q; decide; rfl; (simp only [go_sem, g1, g3, g1l]; rfl); apply s_nil; simp only [AThen, ABlock]; refine hK _ _ ?_; clear hK K; refine AWp_seq_k (fun K hK => ?_); apply s_region; apply s_q; decide; rfl; (simp only [go_sem, g1, g3, g1l]; rfl); apply s_call; decide; (simp only [go_sem, g1, g3, g1l]; rfl); (simp only [go_sem, g1, g3, g1l]; rfl); apply hT; (iterate 4 (apply s_q; decide; rfl; (simp only [go_sem, g1, g3, g1l]; rfl))); apply s_store; (simp only [go_sem, g1, g3, g1l]; rfl); (simp only [go_sem, g1, g3, g1l]; rfl); (simp only [go_sem, g1, g3, g1l]; rfl); apply s_q; decide; rfl; (simp only [go_sem, g1, g3, g1l]; rfl); apply s_nil; simp only [AThen, ABlock]; refine hK _ _ ?_; clear hK K; refine AWp_seq_k (fun K hK => ?_); apply s_region; apply s_q; decide; rfl; (simp only [go_sem, g1, g3, g1l]; rfl); apply s_call; decide; (simp only [go_sem, g1, g3, g1l]; rfl); (simp only [go_sem, g1, g3, g1l]; rfl); apply hN; (iterate 4 (apply s_q; decide; rfl; (simp only [go_sem, g1, g3, g1l]; rfl))); apply s_store; (simp only [go_sem, g1, g3, g1l]; rfl); (simp only [go_sem, g1, g3, g1l]; rfl); (simp only [go_sem, g1, g3, g1l]; rfl); apply s_q; decide; rfl; (simp only [go_sem, g1, g3, g1l]; rfl); apply s_nil; simp only [AThen, ABlock]; refine hK _ _ ?_; clear hK K; refine AWp_seq_k (fun K hK => ?_); apply s_region; apply s_q; decide; rfl; (simp only [go_sem, g1, g3, g1l]; rfl); apply s_call; decide; (simp only [go_sem, g1, g3, g1l]; rfl); (simp only [go_sem, g1, g3, g1l]; rfl); apply hN; (iterate 4 (apply s_q; decide; rfl; (simp only [go_sem, g1, g3, g1l]; rfl))); apply s_store; (simp only [go_sem, g1, g3, g1l]; rfl); (simp only [go_sem, g1, g3, g1l]; rfl); (simp only [go_sem, g1, g3, g1l]; rfl); apply s_q; decide; rfl; (simp only [go_sem, g1, g3, g1l]; rfl); apply s_nil; simp only [AThen, ABlock]; refine hK _ _ ?_; clear hK K; (iterate 2 (refine AWp_seq_k (fun K hK => ?_))); apply s_region; (iterate 3 (apply s_q; decide; rfl; (simp only [go_sem, g1, g3, g1l]; rfl))); apply s_spec; decide; rfl; rfl; (simp only [go_sem, g1, g3, g1l]; rfl); (simp only [go_sem, g1, g3, g1l]; rfl); (simp only [go_sem, g1, g3, g1l]; rfl); (simp only [go_sem, g1, g3, g1l]; rfl); trivial; apply s_spec; decide; rfl; rfl; (simp only [go_sem, g1, g3, g1l]; rfl); (simp only [go_sem, g1, g3, g1l]; rfl); (simp only [go_sem, g1, g3, g1l]; rfl); (simp only [go_sem, g1, g3, g1l]; rfl); simp [condsOk]; apply s_pick; decide; (simp only [go_sem, g1, g3, g1l]; rfl); (simp only [go_sem, g1, g3, g1l]; rfl); (simp only [go_sem, g1, g3, g1l]; rfl); (simp only [go_sem, g1, g3, g1l]; rfl); (simp only [go_sem, g1, g3, g1l]; rfl); (simp only [go_sem, g1, g3, g1l]; rfl); trivial; trivial; simp [condsOk]; apply s_q; decide; rfl; (simp only [go_sem, g1, g3, g1l]; rfl); apply s_spec; decide; rfl; rfl; (simp only [go_sem, g1, g3, g1l]; rfl); (simp only [go_sem, g1, g3, g1l]; rfl); (simp only [go_sem, g1, g3, g1l]; rfl); (simp only [go_sem, g1, g3, g1l]; rfl); trivial; apply s_spec; decide; rfl; rfl; (simp only [go_sem, g1, g3, g1l]; rfl); (simp only [go_sem, g1, g3, g1l]; rfl); (simp only [go_sem, g1, g3, g1l]; rfl); (simp only [go_sem, g1, g3, g1l]; rfl); simp [condsOk]; apply s_pick; decide; (simp only [go_sem, g1, g3, g1l]; rfl); (simp only [go_sem, g1, g3, g1l]; rfl); (simp only [go_sem, g1, g3, g1l]; rfl); (simp only [go_sem, g1, g3, g1l]; rfl); (simp only [go_sem, g1, g3, g1l]; rfl); (simp only [go_sem, g1, g3, g1l]; rfl); trivial; trivial; simp [condsOk]; apply s_q; decide; rfl; (simp only [go_sem, g1, g3, g1l]; rfl); apply s_spec; decide; rfl; rfl; (simp only [go_sem, g1, g3, g1l]; rfl); (simp only [go_sem, g1, g3, g1l]; rfl); (simp only [go_sem, g1, g3, g1l]; rfl); (simp only [go_sem, g1, g3, g1l]; rfl); trivial; apply s_spec; decide; rfl; rfl; (simp only [go_sem, g1, g3, g1l]; rfl); (simp only [go_sem, g1, g3, g1l]; rfl); (simp only [go_sem, g1, g3, g1l]; rfl); (simp only [go_sem, g1, g3, g1l]; rfl); simp [condsOk]; apply s_pick; decide; (simp only [go_sem, g1, g3, g1l]; rfl); (simp only [go_sem, g1, g3, g1l]; rfl); (simp only [go_sem, g1, g3, g1l]; rfl); (simp only [go_sem, g1, g3, g1l]; rfl); (simp only [go_sem, g1, g3, g1l]; rfl); (simp only [go_sem, g1, g3, g1l]; rfl); trivial; trivial; simp [condsOk]; apply s_q; decide; rfl; (simp only [go_sem, g1, g3, g1l]; rfl); apply s_spec; decide; rfl; rfl; (simp only [go_sem, g1, g3, g1l]; rfl); (simp only [go_sem, g1, g3, g1l]; rfl); (simp only [go_sem, g1, g3, g1l]; rfl); (simp only [go_sem, g1, g3, g1l]; rfl); trivial; apply s_spec; decide; rfl; rfl; (simp only [go_sem, g1, g3, g1l]; rfl); (simp only [go_sem, g1, g3, g1l]; rfl); (simp only [go_sem, g1, g3, g1l]; rfl); (simp only [go_sem, g1, g3, g1l]; rfl); simp [condsOk]; apply s_pick; decide; (simp only [go_sem, g1, g3, g1l]; rfl); (simp only [go_sem, g1, g3, g1l]; rfl); (simp only [go_sem, g1, g3, g1l]; rfl); (simp only [go_sem, g1, g3, g1l]; rfl); (simp only [go_sem, g1, g3, g1l]; rfl); (simp only [go_sem, g1, g3, g1l]; rfl); trivial; trivial; simp [condsOk]; apply s_q; decide; rfl; (simp only [go_sem, g1, g3, g1l]; rfl); apply s_spec; decide; rfl; rfl; (simp only [go_sem, g1, g3, g1l]; rfl); (simp only [go_sem, g1, g3, g1l]; rfl); (simp only [go_sem, g1, g3, g1l]; rfl); (simp only [go_sem, g1, g3, g1l]; rfl); trivial; apply s_spec; decide; rfl; rfl; (simp only [go_sem, g1, g3, g1l]; rfl); (simp only [go_sem, g1, g3, g1l]; rfl); (simp only [go_sem, g1, g3, g1l]; rfl); (simp only [go_sem, g1, g3, g1l]; rfl); simp [condsOk]; apply s_pick; decide; (simp only [go_sem, g1, g3, g1l]; rfl); (simp only [go_sem, g1, g3, g1l]; rfl); (simp only [go_sem, g1, g3, g1l]; rfl); (simp only [go_sem, g1, g3, g1l]; rfl); (simp only [go_sem, g1, g3, g1l]; rfl); (simp only [go_sem, g1, g3, g1l]; rfl); trivial; trivial; simp [condsOk]; apply s_q; decide; rfl; (simp only [go_sem, g1, g3, g1l]; rfl); apply s_spec; decide; rfl; rfl; (simp only [go_sem, g1, g3, g1l]; rfl); (simp only [go_sem, g1, g3, g1l]; rfl); (simp only [go_sem, g1, g3, g1l]; rfl); (simp only [go_sem, g1, g3, g1l]; rfl); trivial; apply s_spec; decide; rfl; rfl; (simp only [go_sem, g1, g3, g1l]; rfl); (simp only [go_sem, g1, g3, g1l]; rfl); (simp only [go_sem, g1, g3, g1l]; rfl); (simp only [go_sem, g1, g3, g1l]; rfl); simp [condsOk]; apply s_pick; decide; (simp only [go_sem, g1, g3, g1l]; rfl); (simp only [go_sem, g1, g3, g1l]; rfl); (simp only [go_sem, g1, g3, g1l]; rfl); (simp only [go_sem, g1, g3, g1l]; rfl); (simp only [go_sem, g1, g3, g1l]; rfl); (simp only [go_sem, g1, g3, g1l]; rfl); trivial; trivial; simp [condsOk]; apply s_q; decide; rfl; (simp only [go_sem, g1, g3, g1l]; rfl); apply s_spec; decide; rfl; rfl; (simp only [go_sem, g1, g3, g1l]; rfl); (simp only [go_sem, g1, g3, g1l]; rfl); (simp only [go_sem, g1, g3, g1l]; rfl); (simp only [go_sem, g1, g3, g1l]; rfl); trivial; apply s_spec; decide; rfl; rfl; (simp only [go_sem, g1, g3, g1l]; rfl); (simp only [go_sem, g1, g3, g1l]; rfl); (simp only [go_sem, g1, g3, g1l]; rfl); (simp only [go_sem, g1, g3, g1l]; rfl); simp [condsOk]; apply s_pick; decide; (simp only [go_sem, g1, g3, g1l]; rfl); (simp only [go_sem, g1, g3, g1l]; rfl); (simp only [go_sem, g1, g3, g1l]; rfl); (simp only [go_sem, g1, g3, g1l]; rfl); (simp only [go_sem, g1, g3, g1l]; rfl); (simp only [go_sem, g1, g3, g1l]; rfl); trivial; trivial; simp [condsOk]; apply s_q; decide; rfl; (simp only [go_sem, g1, g3, g1l]; rfl); apply s_spec; decide; rfl; rfl; (simp only [go_sem, g1, g3, g1l]; rfl); (simp only [go_sem, g1, g3, g1l]; rfl); (simp only [go_sem, g1, g3, g1l]; rfl); (simp only [go_sem, g1, g3, g1l]; rfl); trivial; apply s_spec; decide; rfl; rfl; (simp only [go_sem, g1, g3, g1l]; rfl); (simp only [go_sem, g1, g3, g1l]; rfl); (simp only [go_sem, g1, g3, g1l]; rfl); (simp only [go_sem, g1, g3, g1l]; rfl); simp [condsOk]; apply s_pick; decide; (simp only [go_sem, g1, g3, g1l]; rfl); (simp only [go_sem, g1, g3, g1l]; rfl); (simp only [go_sem, g1, g3, g1l]; rfl); (simp only [go_sem, g1, g3, g1l]; rfl); (simp only [go_sem, g1, g3, g1l]; rfl); (simp only [go_sem, g1, g3, g1l]; rfl); trivial; trivial; simp [condsOk]; apply s_nil; simp only [AThen, ABlock]; refine hK _ _ ?_; clear hK K)
  have e9 : ∀ b1 b2 b3 b4 b5 b6 b7 b8 b9 : Bool, (if (if (if (if (if (if (if (if (!b1) = true then true else !b2) = true then true else !b3) = true then true else !b4) = true then true else !b5) = true then true else !b6) = true then true else !b7) = true then true else !b8) = true then true else !b9) = !(b1 && b2 && b3 && b4 && b5 && b6 && b7 && b8 && b9) := by decide
  have g2l : ∀ x, (M2.put l x).get r = some lvz := fun x => get_other g2 hrl
  refine cond_split (by simp only [go_sem]; try rfl) (fun hd => ?_) (fun hd => ?_)
  · have hd := (e9 _ _ _ _ _ _ _ _ _).symm.trans hd
    have hb : docOk j = false := by
      have : (!docOk j) = true := hd
      simpa using this
    rw [hb] at h
    (refine AWp_seq_k (fun K hK => ?_); apply s_region; apply s_q; decide; rfl; (simp only [go_sem, zc_levels, g2l]; rfl); apply s_store; (simp only [go_sem, zc_levels, g2l]; rfl); (simp only [go_sem, zc_levels, g2l]; rfl); (simp only [go_sem, zc_levels, g2l]; rfl); apply s_q; decide; rfl; (simp only [go_sem, zc_levels, g2l]; rfl); apply s_nil; simp only [AThen, ABlock]; refine hK _ _ ?_; clear hK K; apply AWp_ret)
    try simp only [AThen, ABlock]
    refine end_ret (av := .tup [.agg [.v (.int .i64 0), .v (.int .i64 0), .v (.int .i64 0), .v (.int .i64 0), .v (.int .i64 0), .v (.int .i64 0), .v (.int .i64 0), .sl true [], .sl true []], .v (.int .i64 1)]) (by show resAV X.P _ _ [.cell 2 29, .tmp 3] = _; simp only [go_sem]; try rfl) ⟨_, _, Snap.trans Snap.loosen (Snap.drop ((hE.over hHl).over hHr)), h⟩
  · have hd := (e9 _ _ _ _ _ _ _ _ _).symm.trans hd
    have hb : docOk j = true := by
      have : (!docOk j) = false := hd
      simpa using this
    rw [if_pos hb] at h
    have n9 : nameOk isType ((jGet j ([101, 118, 101, 110, 116, 115] : List UInt8)).map J.ord) = true := by
      rw [docOk] at hb; simp only [Bool.and_eq_true] at hb; exact hb.2
    have n8 : nameOk isUserB ((jGet j ([117, 115, 101, 114, 115] : List UInt8)).map J.ord) = true := by
      rw [docOk] at hb; simp only [Bool.and_eq_true] at hb; exact hb.1.2
    (apply AWp_skip; simp only [AThen, ABlock]; refine hK _ _ ?_; clear hK K; refine AWp_seq_k (fun K hK => ?_); apply s_region; apply s_q; decide; rfl; (simp only [go_sem, g2l]; rfl); apply s_store; (simp only [go_sem, g2l]; rfl); (simp only [go_sem, g2l]; rfl); (simp only [go_sem, g2l]; rfl); apply s_q; decide; rfl; (simp only [go_sem, g2l]; rfl); apply s_nil; simp only [AThen, ABlock]; refine hK _ _ ?_; clear hK K; apply AWp_ret)
    try simp only [AThen, ABlock]
    refine end_ret (by show resAV X.P _ _ [.cell 2 29, .tmp 3] = _; simp only [go_sem]; try rfl) ⟨_, _, Snap.drop ((hE.over hHl).over hHr), ?_⟩
    simp only [reduceIte, Bool.false_eq_true, n8, n9]
    exact h
end Go.Proofs.YtniaafncmnilgaaGreatDoor
