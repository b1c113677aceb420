/-
  Power: a content's numbers and names. Contracts.
-/
import Derived.Test.YtcpfgjfiacfmoaaGreatDoorPPart8
import Derived.Test.YtcpfgjfiacfmoaaGreatDoorPPart7
import Derived.Test.YtcpfgjfiacfmoaaGreatDoorPAL4
set_option linter.unusedSimpArgs false
set_option linter.unusedVariables false
set_option maxRecDepth 100000
namespace Go.Proofs.YtcpfgjfiacfmoaaGreatDoor
open Go Go.AL
attribute [local irreducible] AOps AWp SOps AE AT ACall AApp

theorem put_self {H : AHeap} {q : Nat} {o : AObj} (h : H.get q = some o) : H.put q o = H := by
  funext c
  show (H.put q o).get c = H.get c
  rw [AHeap.get_put]; split
  · rename_i e; subst e; exact h.symm
  · rfl
theorem ext_put2 {H : AHeap} {q b : Nat} {o x y : AObj} (hq : H.get q = some o) (hb : H.get b = none) : Ext (H.put q x) ((H.put b y).put q x) := fun c z hc => by
  rw [AHeap.get_put] at hc ⊢
  split
  · rename_i e; rw [if_pos e] at hc; exact hc
  · rename_i e
    rw [if_neg e] at hc
    rw [AHeap.get_put, if_neg (by rintro rfl; rw [hb] at hc; cases hc)]; exact hc
def numR (o : Option J) (n : Int) : Int := match o with | none => n | some j => j.int
def numB (o : Option J) (bad : Bool) : Bool := match o with | none => bad | some j => if bad = true then true else !levelB j
abbrev cbox (m : Nat) (bad : Bool) : AObj := .box 117 [.v (.map (some m)), .v (.bool bad)]
set_option maxHeartbeats 1000000 in
theorem number_c (q m : Nat) (bad : Bool) (es : List (List UInt8 × AV)) (key : List UInt8) (o : Option J) (hk : kfind key es = o.map fun x => AV.agg x.cells) (n : Int) (H : AHeap) (hq : H.get q = some (cbox m bad)) (hm : H.get m = some (.smap es)) (Kc : AV → AHeap → Prop)
    (h : Kc (.v (.int .i64 (numR o n))) (H.put q (cbox m (numB o bad)))) : ACall X 100 [ptrTo q, .s key, .v (.int .i64 n)] H Kc := by
  refine ACall.drop ?_
  refine ACall_intro Tryz.func100 rfl (by kernel_rfl) (by rw [Tryz.ntmps100]; simp) ?_; rw [Tryz.ntmps100]; simp only [frame0, Nat.reduceAdd]
  cases o with
  | none =>
    have hk : kfind key es = none := hk
    have h : Kc (.v (.int .i64 n)) (H.put q (cbox m bad)) := h
    rw [put_self hq] at h
    (apply sR; intro K hK; apply s_q; decide; rfl; (simp only [go_sem, hq, hm, hk]; rfl); refine s_nil (hK _ _ ?_); clear hK K; apply sR; intro K hK; (iterate 9 (apply s_q; decide; rfl; (simp only [go_sem, hq, hm, hk]; rfl))); apply s_alloc; decide; exact zc_25; intro b hb; apply s_store; (iterate 3 (simp only [go_sem, hq, hm, hk]; rfl)); apply s_q; decide; rfl; (simp only [go_sem, hq, hm, hk]; rfl); refine s_nil (hK _ _ ?_); clear hK K; apply sK; intro K hK; apply sR; intro K hK; (iterate 2 (apply s_q; decide; rfl; (simp only [go_sem, hq, hm, hk]; rfl))); refine s_nil (hK _ _ ?_); clear hK K)
    refine cs (fun hc => ?_) (fun hc => ?_)
    rotate_left
    · cases hc
    (apply sR; intro K hK; (iterate 2 (refine qr ?_)); refine s_nil (hK _ _ ?_); clear hK K; apply AWp_ret; simp only [AThen, ABlock]; apply end_ret; rfl; simp only [AFr.get, reduceIte, Nat.reduceEqDiff])
    exact ⟨H, Ext.fresh hb, h⟩
  | some j =>
    have hk : kfind key es = some (.agg [.v (.int .i64 j.kind), .v (.int .i64 j.int), .s j.text, .sl false (j.keys.map strCells), .sl false (j.list.map J.cells)]) := by rw [hk, ← J.cells_eq]; rfl
    have h : Kc (.v (.int .i64 j.int)) (H.put q (cbox m (if bad = true then true else !levelB j))) := h
    (apply sR; intro K hK; apply s_q; decide; rfl; (simp only [go_sem, hq, hm, hk]; rfl); refine s_nil (hK _ _ ?_); clear hK K; apply sR; intro K hK; (iterate 9 (apply s_q; decide; rfl; (simp only [go_sem, hq, hm, hk]; rfl))); apply s_alloc; decide; exact zc_25; intro b hb; apply s_store; (iterate 3 (simp only [go_sem, hq, hm, hk]; rfl)); apply s_q; decide; rfl; (simp only [go_sem, hq, hm, hk]; rfl); refine s_nil (hK _ _ ?_); clear hK K; apply sK; intro K hK; apply sR; intro K hK; (iterate 2 (apply s_q; decide; rfl; (simp only [go_sem, hq, hm, hk]; rfl))); refine s_nil (hK _ _ ?_); clear hK K)
    refine cs (fun hc => ?_) (fun hc => ?_)
    · cases hc
    have g1 := get_fresh hq hb (x := (.box 25 [.v (.int .i64 j.kind), .v (.int .i64 j.int), .s j.text, .sl false (j.keys.map strCells), .sl false (j.list.map J.cells)]))
    have g2 := AHeap.get_put_same b (.box 25 [.v (.int .i64 j.kind), .v (.int .i64 j.int), .s j.text, .sl false (j.keys.map strCells), .sl false (j.list.map J.cells)]) H
    (refine AWp_skip (hK _ _ ?_); clear hK K; apply sR; intro K hK; apply s_q; decide; rfl; (simp only [go_sem, g1, g2]; rfl); apply s_call; decide; (iterate 2 (simp only [go_sem, g1, g2]; rfl)); refine ACall.args_eq (bs := [.agg j.cells]) ?_ ?_; (focus (rw [J.cells_eq j]; done)); apply level_c j; (iterate 5 (apply s_q; decide; rfl; (simp only [go_sem, g1, g2]; rfl))); refine s_nil (hK _ _ ?_); clear hK K; apply sR; intro K hK; (iterate 6 (apply s_q; decide; rfl; (simp only [go_sem, g1, g2]; rfl))); apply s_spec; decide; rfl; rfl; (iterate 4 (simp only [go_sem, g1, g2]; rfl)); trivial; apply s_spec; decide; rfl; rfl; (iterate 4 (simp only [go_sem, g1, g2]; rfl)); simp [condsOk]; apply s_pick; decide; (iterate 6 (simp only [go_sem, g1, g2]; rfl)); trivial; trivial; simp [condsOk]; (iterate 2 (apply s_q; decide; rfl; (simp only [go_sem, g1, g2]; rfl))); apply s_store; (iterate 3 (simp only [go_sem, g1, g2]; rfl)); refine s_nil (hK _ _ ?_); clear hK K; apply sR; intro K hK; (iterate 2 (apply s_q; decide; rfl; (simp only [go_sem, g1, g2]; rfl))); refine s_nil (hK _ _ ?_); clear hK K; apply AWp_ret)
    exact ⟨H.put q _, ext_put2 hq hb, h⟩
theorem ext_reput {H L : AHeap} {q : Nat} {x y : AObj} (h : Ext (H.put q x) L) : Ext (H.put q y) (L.put q y) := fun c z hc => by
  rw [AHeap.get_put] at hc ⊢
  split
  · rename_i e; rw [if_pos e] at hc; exact hc
  · rename_i e; rw [if_neg e] at hc
    exact h c z (by rw [AHeap.get_put, if_neg e]; exact hc)
theorem rowAt_rebase {e sz q : Nat} {H L : AHeap} {es : List (List AV)} {a : AV} {x y : AObj} (h : RowAt e sz (H.put q x) L es a) : RowAt e sz (H.put q y) L es a := by
  rcases h with h | ⟨b, h1, h2, h3⟩
  · exact .inl h
  · refine .inr ⟨b, ?_, h2, h3⟩
    rw [AHeap.get_put] at h1 ⊢
    split at h1
    · cases h1
    · rename_i e; rw [if_neg e]; exact h1
theorem snap_at {e sz : Nat} {K0 L : AHeap} {es : List (List AV)} {a : AV} (h : RowAt e sz K0 L es a) (hE : Ext K0 L) : Snap X [a] L [.sl false es] K0 := by
  rcases h with ⟨rfl, rfl⟩ | ⟨b, h1, rfl, h3⟩
  · exact Snap.trans Snap.loosen (Snap.drop hE)
  · have h5 : Snap X [.row b sz es.length] L (AV.snaps b sz es [.row b sz es.length]) (L.put b (.row e sz true es)) := Snap.row h3
    simp only [AV.snaps, AV.snap] at h5
    rw [if_pos trivial, if_pos ⟨trivial, Nat.le_refl _⟩, List.take_length] at h5
    exact h5.trans (Snap.drop (Ext.over hE h1))
def namesL (l : List (List UInt8 × J)) : List Nm := l.map fun x => (x.1, x.2.int)
def namesB (p : List UInt8 → Bool) (bad : Bool) (l : List (List UInt8 × J)) : Bool := l.foldl (fun b x => if (if b = true then true else !levelB x.2) = true then true else !p x.1) bad
def namesR (o : Option J) : List Nm := match o with | none => [] | some j => namesL (j.keys.zip j.list)
def namesBad (p : List UInt8 → Bool) (o : Option J) (bad : Bool) : Bool := match o with | none => bad | some j => namesB p (if bad = true then true else !decide (j.kind = 5)) (j.keys.zip j.list)
set_option maxHeartbeats 2000000 in
theorem names_c (q m : Nat) (bad : Bool) (es : List (List UInt8 × AV)) (key : List UInt8) (o : Option J) (hk : kfind key es = o.map fun x => AV.agg x.cells) (g : FuncId) (pr : List UInt8 → Bool) (hg : ∀ (l : List UInt8), l.length < 4294967281 → ∀ (H : AHeap) (K : AV → AHeap → Prop), K (.v (.bool (pr l))) H → ACall X g [.s l] H K)
    (ho : ∀ j, o = some j → (j.keys.length ≤ 1000000000 ∧ j.keys.length ≤ j.list.length) ∧ ∀ k ∈ j.keys, k.length < 4294967281) (H : AHeap) (hq : H.get q = some (cbox m bad)) (hm : H.get m = some (.smap es)) (Kc : AV → AHeap → Prop)
    (h : Kc (.sl false ((namesR o).map nmCells)) (H.put q (cbox m (namesBad pr o bad)))) : ACall X 101 [ptrTo q, .s key, .fn (.func g) [] []] H Kc := by
  refine ACall.post ?_
  refine ACall_intro Tryz.func101 rfl (by kernel_rfl) (by rw [Tryz.ntmps101]; simp) ?_; rw [Tryz.ntmps101]; simp only [frame0, Nat.reduceAdd]
  cases o with
  | none =>
    have hk : kfind key es = none := hk
    have h : Kc (.sl false []) (H.put q (cbox m bad)) := h
    rw [put_self hq] at h
    (apply sR; intro K hK; apply s_q; decide; rfl; (simp only [go_sem, hq, hm, hk]; rfl); refine s_nil (hK _ _ ?_); clear hK K; apply sR; intro K hK; (iterate 9 (apply s_q; decide; rfl; (simp only [go_sem, hq, hm, hk]; rfl))); apply s_alloc; decide; exact zc_25; intro b hb; apply s_store; (iterate 3 (simp only [go_sem, hq, hm, hk]; rfl)); apply s_q; decide; rfl; (simp only [go_sem, hq, hm, hk]; rfl); refine s_nil (hK _ _ ?_); clear hK K; apply sK; intro K hK; apply sR; intro K hK; (iterate 2 (apply s_q; decide; rfl; (simp only [go_sem, hq, hm, hk]; rfl))); refine s_nil (hK _ _ ?_); clear hK K)
    refine cs (fun hc => ?_) (fun hc => ?_)
    rotate_left
    · cases hc
    (apply sR; intro K hK; refine qr ?_; refine s_nil (hK _ _ ?_); clear hK K; apply AWp_ret; simp only [AThen, ABlock]; apply end_ret; rfl; simp only [AFr.get, reduceIte, Nat.reduceEqDiff])
    exact ⟨_, _, Snap.trans Snap.loosen (Snap.drop (Ext.fresh hb)), h⟩
  | some j =>
    obtain ⟨⟨f1, f2⟩, f3⟩ := ho j rfl
    have hk : kfind key es = some (.agg [.v (.int .i64 j.kind), .v (.int .i64 j.int), .s j.text, .sl false (j.keys.map strCells), .sl false (j.list.map J.cells)]) := by rw [hk, ← J.cells_eq]; rfl
    have h : Kc (.sl false ((namesL (j.keys.zip j.list)).map nmCells)) (H.put q (cbox m (namesB pr (if bad = true then true else !decide (j.kind = 5)) (j.keys.zip j.list)))) := h
    obtain ⟨b0, hb0⟩ : ∃ b0, b0 = (if bad = true then true else !decide (j.kind = 5)) := ⟨_, rfl⟩
    rw [← hb0] at h
    (apply sR; intro K hK; apply s_q; decide; rfl; (simp only [go_sem, hq, hm, hk]; rfl); refine s_nil (hK _ _ ?_); clear hK K; apply sR; intro K hK; (iterate 9 (apply s_q; decide; rfl; (simp only [go_sem, hq, hm, hk]; rfl))); apply s_alloc; decide; exact zc_25; intro b hb; apply s_store; (iterate 3 (simp only [go_sem, hq, hm, hk]; rfl)); apply s_q; decide; rfl; (simp only [go_sem, hq, hm, hk]; rfl); refine s_nil (hK _ _ ?_); clear hK K; apply sK; intro K hK; apply sR; intro K hK; (iterate 2 (apply s_q; decide; rfl; (simp only [go_sem, hq, hm, hk]; rfl))); refine s_nil (hK _ _ ?_); clear hK K)
    refine cs (fun hc => ?_) (fun hc => ?_)
    · cases hc
    obtain ⟨p, hpb⟩ : ∃ p, p = b := ⟨_, rfl⟩
    have hp := hb
    rw [← hpb] at hp ⊢
    clear hb hpb b
    have g1 := get_fresh hq hp (x := (.box 25 [.v (.int .i64 j.kind), .v (.int .i64 j.int), .s j.text, .sl false (j.keys.map strCells), .sl false (j.list.map J.cells)]))
    have g2 := AHeap.get_put_same p (.box 25 [.v (.int .i64 j.kind), .v (.int .i64 j.int), .s j.text, .sl false (j.keys.map strCells), .sl false (j.list.map J.cells)]) H
    have hpq := get_ne_fresh hq hp
    have hE1 : Ext (H.put q (cbox m b0)) ((H.put p (.box 25 [.v (.int .i64 j.kind), .v (.int .i64 j.int), .s j.text, .sl false (j.keys.map strCells), .sl false (j.list.map J.cells)])).put q (cbox m b0)) := ext_put2 hq hp
    have g3 : ((H.put p (.box 25 [.v (.int .i64 j.kind), .v (.int .i64 j.int), .s j.text, .sl false (j.keys.map strCells), .sl false (j.list.map J.cells)])).put q (cbox m b0)).get p = _ := get_other g2 hpq.symm
    have g4 := AHeap.get_put_same q (cbox m b0) (H.put p (.box 25 [.v (.int .i64 j.kind), .v (.int .i64 j.int), .s j.text, .sl false (j.keys.map strCells), .sl false (j.list.map J.cells)]))
    generalize H.put p (.box 25 [.v (.int .i64 j.kind), .v (.int .i64 j.int), .s j.text, .sl false (j.keys.map strCells), .sl false (j.list.map J.cells)]) = M0 at g1 g2 g3 g4 hE1 ⊢
    (refine AWp_skip (hK _ _ ?_); clear hK K; apply sR; intro K hK; (iterate 6 (apply s_q; decide; rfl; (simp only [go_sem, g1, g2]; rfl))); apply s_spec; decide; rfl; rfl; (iterate 4 (simp only [go_sem, g1, g2]; rfl)); trivial; (iterate 2 (apply s_spec; decide; rfl; rfl; (iterate 4 (simp only [go_sem, g1, g2]; rfl)); simp [condsOk])); apply s_pick; decide; (iterate 6 (simp only [go_sem, g1, g2]; rfl)); trivial; trivial; simp [condsOk]; (iterate 2 (apply s_q; decide; rfl; (simp only [go_sem, g1, g2]; rfl))); apply s_store; (iterate 3 (simp only [go_sem, g1, g2]; rfl)); refine s_nil (hK _ _ ?_); clear hK K; apply sR; intro K hK; apply s_q; decide; rfl; (simp only [go_sem, g1, g2]; rfl); refine s_nil (hK _ _ ?_); clear hK K; apply sK; intro K hK; apply sR; intro K hK; apply s_q; decide; rfl; (simp only [go_sem, g1, g2]; rfl))
    rw [← hb0]
    generalize M0.put q (cbox m b0) = M1 at g3 g4 hE1 ⊢
    clear g1 g2
    ((iterate 3 (apply s_q; decide; rfl; (simp only [go_sem, g3]; rfl))); refine s_nil (hK _ _ ?_); clear hK K; apply AWp_block)
    refine AWp_loop_s (σ := Nat × AV × AHeap) [0, 2, 7, 9, 38, 39, 40] (fun s => [ptrTo q, .fn (.func g) [] [], ptrTo p, s.2.1, .sl false (j.keys.map strCells), .v (.int .i64 (j.keys.length : Nat)), .v (.int .i64 s.1)]) (fun s => s.2.2) (fun s => j.keys.length - s.1)
      (fun s => s.1 ≤ j.keys.length ∧ s.2.2.get q = some (cbox m (namesB pr b0 ((j.keys.zip j.list).take s.1))) ∧ s.2.2.get p = some (.box 25 [.v (.int .i64 j.kind), .v (.int .i64 j.int), .s j.text, .sl false (j.keys.map strCells), .sl false (j.list.map J.cells)]) ∧ Ext (H.put q (cbox m (namesB pr b0 ((j.keys.zip j.list).take s.1)))) s.2.2 ∧
        RowAt 98 2 (H.put q (cbox m (namesB pr b0 ((j.keys.zip j.list).take s.1)))) s.2.2 ((namesL ((j.keys.zip j.list).take s.1)).map nmCells) s.2.1)
      (0, .sl true [], M1) ⟨Nat.zero_le _, g4, g3, hE1, RowAt.nil _ _ _ _⟩ (by simp only [getAll, List.map_cons, List.map_nil, AFr.get, reduceIte, Nat.reduceEqDiff, List.length_map]; rfl) rfl (fun s hs => ?_)
    obtain ⟨n, a, L⟩ := s
    obtain ⟨hn, hqL, hpL, hE, hR⟩ := hs
    simp only [List.zip_cons_cons, List.zip_nil_right] at hn hqL hpL hE hR ⊢
    clear g3 g4 hE1
    (apply sR; intro K hK; refine qr ?_; refine s_nil (hK _ _ ?_); clear hK K; apply sK; intro K hK)
    refine cs (fun hd => ?_) (fun hd => ?_)
    · have hlt : n < j.keys.length := by simpa using hd
      obtain ⟨ky, hky⟩ := gete hlt
      have hgk := jstr_at hky
      obtain ⟨x, hx⟩ := gete (l := j.list) (i := n) (by omega)
      have hgx := jget_at hx
      have hz : (j.keys.zip j.list)[n]? = some (ky, x) := by rw [List.getElem?_zip_eq_some]; exact ⟨hky, hx⟩
      have ht : (j.keys.zip j.list).take (n + 1) = (j.keys.zip j.list).take n ++ [(ky, x)] := take_succ hz
      obtain ⟨l, hl⟩ : ∃ l, l = (j.keys.zip j.list).take n := ⟨_, rfl⟩
      rw [← hl] at hqL hE hR ht
      obtain ⟨bb, hbb⟩ : ∃ bb, bb = namesB pr b0 l := ⟨_, rfl⟩
      rw [← hbb] at hqL hE hR
      have hll : l.length ≤ 1000000000 := by rw [hl, List.length_take, List.length_zip]; omega
      have hfk := f3 ky (List.mem_of_getElem? hky)
      have e1 : namesL (l ++ [(ky, x)]) = namesL l ++ [(ky, x.int)] := by rw [namesL, List.map_append]; rfl
      have e2 : namesB pr b0 (l ++ [(ky, x)]) = if (if bb = true then true else !levelB x) = true then true else !pr ky := by rw [namesB, List.foldl_append, hbb, namesB]; rfl
      (refine AWp_skip (hK _ _ ?_); clear hK K; apply sK; intro K hK; apply AWp_block; apply sR; intro K hK; (iterate 5 (apply s_q; decide; rfl; (simp only [go_sem, hqL, hpL, hgk, hgx]; rfl))); refine s_nil (hK _ _ ?_); clear hK K; apply sR; intro K hK; (iterate 5 (apply s_q; decide; rfl; (simp only [go_sem, hqL, hpL, hgk, hgx]; rfl))); apply s_call; decide; (iterate 2 (simp only [go_sem, hqL, hpL, hgk, hgx]; rfl)); refine ACall.args_eq (bs := [.agg x.cells]) ?_ ?_; (focus (rw [J.cells_eq x]; done)); apply level_c x; (iterate 5 (apply s_q; decide; rfl; (simp only [go_sem, hqL, hpL, hgk, hgx]; rfl))); refine s_nil (hK _ _ ?_); clear hK K; apply sR; intro K hK; (iterate 6 (apply s_q; decide; rfl; (simp only [go_sem, hqL, hpL, hgk, hgx]; rfl))); apply s_spec; decide; rfl; rfl; (iterate 4 (simp only [go_sem, hqL, hpL, hgk, hgx]; rfl)); trivial; apply s_spec; decide; rfl; rfl; (iterate 4 (simp only [go_sem, hqL, hpL, hgk, hgx]; rfl)); simp [condsOk]; apply s_pick; decide; (iterate 6 (simp only [go_sem, hqL, hpL, hgk, hgx]; rfl)); trivial; trivial; simp [condsOk]; apply s_q; decide; rfl; (simp only [go_sem, hqL, hpL, hgk, hgx]; rfl); (iterate 2 (apply s_spec; decide; rfl; rfl; (iterate 4 (simp only [go_sem, hqL, hpL, hgk, hgx]; rfl)); trivial)); apply s_gpure; decide; (iterate 3 (simp only [go_sem, hqL, hpL, hgk, hgx]; rfl)); simp [condsOk]; (iterate 2 (simp only [go_sem, hqL, hpL, hgk, hgx]; rfl)); (apply hg ky hfk; exact ⟨rfl, rfl⟩); apply s_spec; decide; rfl; rfl; (iterate 4 (simp only [go_sem, hqL, hpL, hgk, hgx]; rfl)); simp [condsOk]; apply s_pick; decide; (iterate 6 (simp only [go_sem, hqL, hpL, hgk, hgx]; rfl)); trivial; trivial; simp [condsOk]; (iterate 2 (apply s_q; decide; rfl; (simp only [go_sem, hqL, hpL, hgk, hgx]; rfl))); apply s_store; (iterate 3 (simp only [go_sem, hqL, hpL, hgk, hgx]; rfl)); refine s_nil (hK _ _ ?_); clear hK K; apply s_region; (iterate 4 (apply s_q; decide; rfl; (simp only [go_sem, hqL, hpL, hgk, hgx]; rfl))); apply s_lit; decide; exact el_56; (iterate 2 (simp only [go_sem, hqL, hpL, hgk, hgx]; rfl)); decide)
      rw [← e2]
      obtain ⟨b1, hb1⟩ : ∃ b1, b1 = namesB pr b0 (l ++ [(ky, x)]) := ⟨_, rfl⟩
      rw [← hb1]
      have hR2 := rowAt_rebase (y := cbox m b1) (hR.put (o' := cbox m b1) hqL (fun _ _ _ h => by cases h))
      have hE2 := ext_reput (y := cbox m b1) hE
      have q2 := AHeap.get_put_same q (cbox m b1) L
      have p2 := get_other (x := cbox m b1) hpL hpq.symm
      generalize L.put q (cbox m b1) = L2 at hR2 hE2 q2 p2 ⊢
      have hnl : (namesL l).length = l.length := by rw [namesL, List.length_map]
      (apply s_append; decide; (iterate 2 (simp only [go_sem]; rfl)); apply AApp_at el_56 hE2 hR2 (l := namesL l) (m := [(ky, x.int)]) rfl rfl tk_56 nm_one (by rw [hnl]; simp; omega) (by rw [hnl]; simp; omega); intro s1 L1 ra rb rc; refine qr ?_; refine s_nil (hK _ _ ?_); clear hK K; apply s_region; (iterate 2 (refine qr ?_)); apply s_nil; simp only [AThen, ABlock])
      refine ⟨(n + 1, s1, L1), by simp only; omega, ⟨by simp only; omega, ?_, rc p _ p2 (fun _ _ _ h => by cases h), ?_, ?_⟩, ?_, by trivial⟩
      · simp only [ht, ← hb1]; exact rc q _ q2 (fun _ _ _ h => by cases h)
      · simp only [ht, ← hb1]; exact rb
      · simp only [ht, ← hb1, e1]; exact ra
      · simp only [getAll, List.map, AFr.get, reduceIte, Nat.reduceEqDiff]
        rw [wrapS hlt (by omega)]; try rfl
    · have hge : j.keys.length ≤ n := by simpa using hd
      have htk : (j.keys.zip j.list).take n = j.keys.zip j.list := List.take_of_length_le (by rw [List.length_zip]; omega)
      rw [htk] at hqL hE hR
      (apply AWp_exit; simp only [AThen, ABlock, reduceIte, Nat.reduceEqDiff]; clear hK K; refine hK _ _ ?_; clear hK K; apply sR; intro K hK; (iterate 2 (refine qr ?_)); refine s_nil (hK _ _ ?_); clear hK K; apply AWp_ret)
      exact ⟨_, _, snap_at hR hE, h⟩

def isUserB (l : List UInt8) : Bool := match idCut [64] l with | some _ => true | none => false
theorem puserB_c (l : List UInt8) (hl : l.length < 4294967281) (H : AHeap) (K : AV → AHeap → Prop) (h : K (.v (.bool (isUserB l))) H) : ACall X 102 [.s l] H K := by
  obtain ⟨a, b, c, e, e2⟩ : ∃ a b c, idParts [64] l = .tup [.s a, .s b, .v (.bool c)] ∧ isUserB l = c := by
    rw [idParts, isUserB]
    cases idCut [64] l with
    | none => exact ⟨_, _, _, rfl, rfl⟩
    | some p => exact ⟨_, _, _, rfl, rfl⟩
  rw [e2] at h
  refine ACall_intro Tryz.func102 rfl (by kernel_rfl) (by rw [Tryz.ntmps102]; simp) ?_; rw [Tryz.ntmps102]; simp only [frame0, Nat.reduceAdd]
  (apply sR; intro K hK; refine qr ?_; refine s_nil (hK _ _ ?_); clear hK K; apply sR; intro K hK; refine qr ?_; apply s_call; decide; (iterate 2 (simp only [go_sem]; rfl)); apply user_c l hl; refine qr ?_)
  rw [e]
  ((iterate 6 (refine qr ?_)); refine s_nil (hK _ _ ?_); clear hK K; apply sR; intro K hK; (iterate 2 (refine qr ?_)); refine s_nil (hK _ _ ?_); clear hK K; apply AWp_ret)
  exact h

def kvE (l : List (List UInt8 × J)) : List (List UInt8 × AV) := l.foldl (fun es p => kput p.1 (.agg p.2.cells) es) []
def jlast (l : List (List UInt8 × J)) (k : List UInt8) : Option J := l.foldl (fun o p => if p.1 = k then some p.2 else o) none
theorem kv_find (k : List UInt8) : ∀ (l : List (List UInt8 × J)) (es : List (List UInt8 × AV)) (o : Option J), kfind k es = o.map (fun x => AV.agg x.cells) →
    kfind k (l.foldl (fun es p => kput p.1 (.agg p.2.cells) es) es) = (l.foldl (fun o p => if p.1 = k then some p.2 else o) o).map fun x => AV.agg x.cells
  | [], es, o, h => h
  | p :: l, es, o, h => by
    simp only [List.foldl_cons]
    refine kv_find k l _ _ ?_
    rw [kfind_kput, h]
    split <;> rfl
theorem kvE_find (k : List UInt8) (l : List (List UInt8 × J)) : kfind k (kvE l) = (jlast l k).map fun x => AV.agg x.cells := kv_find k l [] none rfl
theorem jlast_mem {k : List UInt8} : ∀ {l : List (List UInt8 × J)} {o : Option J} {j : J}, l.foldl (fun o p => if p.1 = k then some p.2 else o) o = some j → o = some j ∨ ∃ p ∈ l, p.2 = j
  | [], o, j, h => .inl h
  | p :: l, o, j, h => by
    rcases jlast_mem (l := l) h with h | ⟨q, hq, e⟩
    · dsimp only at h
      split at h
      · cases h; exact .inr ⟨p, by simp, rfl⟩
      · exact .inl h
    · exact .inr ⟨q, by simp [hq], e⟩
def lv0 : Lv := ⟨0, 0, 0, 0, 0, 0, 0, [], []⟩
def lvOf (g : List UInt8 → Option J) : Option Lv :=
  let b1 := numB (g ([98, 97, 110] : List UInt8)) false
  let b2 := numB (g ([107, 105, 99, 107] : List UInt8)) b1
  let b3 := numB (g ([105, 110, 118, 105, 116, 101] : List UInt8)) b2
  let b4 := numB (g ([114, 101, 100, 97, 99, 116] : List UInt8)) b3
  let b5 := numB (g ([115, 116, 97, 116, 101, 95, 100, 101, 102, 97, 117, 108, 116] : List UInt8)) b4
  let b6 := numB (g ([101, 118, 101, 110, 116, 115, 95, 100, 101, 102, 97, 117, 108, 116] : List UInt8)) b5
  let b7 := numB (g ([117, 115, 101, 114, 115, 95, 100, 101, 102, 97, 117, 108, 116] : List UInt8)) b6
  let b8 := namesBad isUserB (g ([117, 115, 101, 114, 115] : List UInt8)) b7
  let b9 := namesBad isType (g ([101, 118, 101, 110, 116, 115] : List UInt8)) b8
  if b9 = true then none else some ⟨numR (g ([98, 97, 110] : List UInt8)) 50, numR (g ([107, 105, 99, 107] : List UInt8)) 50, numR (g ([105, 110, 118, 105, 116, 101] : List UInt8)) 0, numR (g ([114, 101, 100, 97, 99, 116] : List UInt8)) 50,
    numR (g ([115, 116, 97, 116, 101, 95, 100, 101, 102, 97, 117, 108, 116] : List UInt8)) 50, numR (g ([101, 118, 101, 110, 116, 115, 95, 100, 101, 102, 97, 117, 108, 116] : List UInt8)) 0, numR (g ([117, 115, 101, 114, 115, 95, 100, 101, 102, 97, 117, 108, 116] : List UInt8)) 0,
    namesR (g ([117, 115, 101, 114, 115] : List UInt8)), namesR (g ([101, 118, 101, 110, 116, 115] : List UInt8))⟩
def lvParse (j : J) : Option Lv := if j.kind = 5 then (if goodB 12 j = true then lvOf (jlast (j.ord.keys.zip j.ord.list)) else none) else none
def lvRes (o : Option Lv) : AV := match o with | some l => .tup [.agg l.cells, .v (.int .i64 0)] | none => .tup [.agg lv0.cells, .v (.int .i64 1)]

theorem ord_keys {n : Nat} {y : J} (hg : goodB n y = true) (hf : y.Fit) (hk : ∀ k ∈ y.keys, k.length < 4294967281) : (y.ord.keys.length ≤ 1000000000 ∧ y.ord.keys.length ≤ y.ord.list.length) ∧ ∀ k ∈ y.ord.keys, k.length < 4294967281 := by
  obtain ⟨⟨f1, f2⟩, f3, f4, f5⟩ := fit_eq.1 hf
  rw [ord_eq]
  split
  · refine ⟨⟨by simpa [J.keys, places_len] using f1, by simp [J.keys, J.list]⟩, fun k hkm => ?_⟩
    simp only [J.keys, List.mem_map] at hkm
    obtain ⟨i, hi, rfl⟩ := hkm
    have hlt := places_lt hi
    rw [List.getD_eq_getElem?_getD, List.getElem?_eq_getElem hlt]
    exact hk _ (List.getElem_mem hlt)
  · exact ⟨⟨by simp [J.keys], by simp [J.keys]⟩, fun k hkm => by simp [J.keys] at hkm⟩
theorem ord_list {j : J} (h5 : j.kind = 5) (hl : j.keys.length = j.list.length) {x : J} (hx : x ∈ j.ord.list) : ∃ y ∈ j.list, x = y.ord := by
  rw [ord_eq, if_pos h5] at hx
  simp only [J.list, List.mem_map] at hx
  obtain ⟨i, hi, rfl⟩ := hx
  have hlt := places_lt hi
  rw [hl] at hlt
  refine ⟨j.list[i], List.getElem_mem hlt, ?_⟩
  show (j.list.map J.ord).getD i (.mk 0 0 [] [] []) = _
  rw [List.getD_eq_getElem?_getD, List.getElem?_map, List.getElem?_eq_getElem hlt]; rfl
theorem zc_levels : zC X.P 58 = some [.v (.int .i64 0), .v (.int .i64 0), .v (.int .i64 0), .v (.int .i64 0), .v (.int .i64 0), .v (.int .i64 0), .v (.int .i64 0), .sl true [], .sl true []] := zc_58
abbrev lvz : AObj := .box 58 [.v (.int .i64 0), .v (.int .i64 0), .v (.int .i64 0), .v (.int .i64 0), .v (.int .i64 0), .v (.int .i64 0), .v (.int .i64 0), .sl true [], .sl true []]
set_option maxHeartbeats 4000000 in
theorem parse_c (j : J) (hf : J.Fit j) (hs : (∀ k ∈ j.keys, k.length < 4294967281) ∧ ∀ x ∈ j.list, ∀ k ∈ x.keys, k.length < 4294967281) (H : AHeap) (Kc : AV → AHeap → Prop) (h : Kc (lvRes (lvParse j)) H) : ACall X 68 [.agg j.cells] H Kc := by
  refine ACall.post ?_
  rw [J.cells_eq]
  refine ACall_intro Tryz.func68 rfl (by kernel_rfl) (by rw [Tryz.ntmps68]; simp) ?_; rw [Tryz.ntmps68]; simp only [frame0, Nat.reduceAdd]
  apply sR; intro K hK
  apply s_box; decide; exact (by simp only [go_sem]; try rfl); exact (by simp only [go_sem]; try rfl); intro p hp
  apply s_alloc; decide; exact zc_levels; intro r hr
  (refine qr ?_; refine s_nil (hK _ _ ?_); clear hK K; apply sK; intro K hK; apply sR; intro K hK; refine qr ?_)
  have g1 := get_fresh (AHeap.get_put_same p (jbox j.kind j.int j.text (.sl false (j.keys.map strCells)) (.sl false (j.list.map J.cells))) H) hr (x := lvz)
  have g2 := AHeap.get_put_same r lvz (H.put p (jbox j.kind j.int j.text (.sl false (j.keys.map strCells)) (.sl false (j.list.map J.cells))))
  have hE := (Ext.fresh hp (o := jbox j.kind j.int j.text (.sl false (j.keys.map strCells)) (.sl false (j.list.map J.cells)))).put hr (ob := lvz)
  have hHr : H.get r = none := none_fresh hr
  have hpr := get_ne_fresh (AHeap.get_put_same p (jbox j.kind j.int j.text (.sl false (j.keys.map strCells)) (.sl false (j.list.map J.cells))) H) hr
  generalize (H.put p (jbox j.kind j.int j.text (.sl false (j.keys.map strCells)) (.sl false (j.list.map J.cells)))).put r lvz = M at g1 g2 hE ⊢
  ((iterate 3 (apply s_q; decide; rfl; (simp only [go_sem, g1]; rfl))); apply s_spec; decide; rfl; rfl; (iterate 4 (simp only [go_sem, g1]; rfl)); trivial; apply s_gpure; decide; (iterate 3 (simp only [go_sem, g1]; rfl)); simp [condsOk]; (iterate 2 (simp only [go_sem, g1]; rfl)); (refine ACall.args_eq (bs := [.agg j.cells]) ?_ ?_; (focus (rw [J.cells_eq j]; done)); apply Good_c j _ _ hf; exact ⟨rfl, rfl⟩); apply s_spec; decide; rfl; rfl; (iterate 4 (simp only [go_sem, g1]; rfl)); simp [condsOk]; apply s_pick; decide; (iterate 6 (simp only [go_sem, g1]; rfl)); trivial; trivial; simp [condsOk]; refine s_nil (hK _ _ ?_); clear hK K)
  refine cs (fun hc => ?_) (fun hc => ?_)
  · have hn : lvParse j = none := by
      rw [lvParse]
      by_cases h5 : j.kind = 5
      · rw [if_pos h5]
        rw [if_neg (by simpa [h5] using hc)]
      · rw [if_neg h5]
    rw [hn] at h
    (apply sR; intro K hK; apply s_q; decide; rfl; (simp only [go_sem, zc_levels, g2]; rfl); apply s_store; (iterate 3 (simp only [go_sem, zc_levels, g2]; rfl)); apply s_q; decide; rfl; (simp only [go_sem, zc_levels, g2]; rfl); refine s_nil (hK _ _ ?_); clear hK K; apply AWp_ret)
    try simp only [AThen, ABlock]
    refine end_ret (av := .tup [.agg [.v (.int .i64 0), .v (.int .i64 0), .v (.int .i64 0), .v (.int .i64 0), .v (.int .i64 0), .v (.int .i64 0), .v (.int .i64 0), .sl true [], .sl true []], .v (.int .i64 1)]) (by show resAV X.P _ _ [.cell 2 58, .tmp 3] = _; simp only [go_sem]; try rfl) ⟨_, _, Snap.trans Snap.loosen (Snap.drop (hE.over hHr)), h⟩
  have hc' : j.kind = 5 ∧ goodB 12 j = true := by
    by_cases h5 : j.kind = 5
    · refine ⟨h5, ?_⟩; simpa [h5] using hc
    · simp [h5] at hc
  obtain ⟨h5, hg⟩ := hc'
  rw [lvParse, if_pos h5, if_pos hg] at h
  obtain ⟨c, hcc⟩ : ∃ c, c = j.ord := ⟨_, rfl⟩
  rw [← hcc] at h
  have hOrd : ∀ (H : AHeap) (K : AV → AHeap → Prop), K (.agg [.v (.int .i64 c.kind), .v (.int .i64 c.int), .s c.text, .sl false (c.keys.map strCells), .sl false (c.list.map J.cells)]) H → ACall X 99 [.agg j.cells] H K := fun H K hk => Order_c j hf (by rw [if_pos hg, ← hcc, J.cells_eq]; exact hk)
  (refine AWp_skip (hK _ _ ?_); clear hK K; apply sR; intro K hK; apply s_q; decide; rfl; (simp only [go_sem, g1]; rfl); apply s_call; decide; (iterate 2 (simp only [go_sem, g1]; rfl)); refine ACall.args_eq (bs := [.agg j.cells]) ?_ ?_; (focus (rw [J.cells_eq j]; done)); apply hOrd; apply s_store; (iterate 3 (simp only [go_sem, g1]; rfl)); refine s_nil (hK _ _ ?_); clear hK K; apply sR; intro K hK; apply s_smap; decide; exact mp_115; intro b hb; apply s_q; decide; rfl; (simp only [go_sem, g1]; rfl); apply s_box; decide; (iterate 2 (simp only [go_sem, g1]; rfl)); intro b hb; apply s_q; decide; rfl; (simp only [go_sem, g1]; rfl); refine s_nil (hK _ _ ?_); clear hK K; apply sK; intro K hK; apply sR; intro K hK; apply s_q; decide; rfl; (simp only [go_sem, g1]; rfl))
  rename_i m hm K1 hK1
  obtain ⟨q, hqe⟩ : ∃ q, q = b := ⟨_, rfl⟩
  have hq := hb
  rw [← hqe] at hq ⊢
  clear hb hqe b
  obtain ⟨z, hz⟩ : ∃ z, z = c.keys.zip c.list := ⟨_, rfl⟩
  have hcf := ord_keys hg hf hs.1
  rw [← hcc] at hcf
  have hclen : c.list.length = c.keys.length := by
    rw [hcc, ord_eq, if_pos h5]; simp [J.keys, J.list]
  have k1 := get_fresh (get_fresh (AHeap.get_put_same p (jbox c.kind c.int c.text (.sl false (c.keys.map strCells)) (.sl false (c.list.map J.cells))) M) hm (x := .smap [])) hq (x := cbox m false)
  have k2 := get_fresh (get_fresh (get_other (x := (jbox c.kind c.int c.text (.sl false (c.keys.map strCells)) (.sl false (c.list.map J.cells)))) g2 hpr.symm) hm (x := .smap [])) hq (x := cbox m false)
  have k3 := get_fresh (AHeap.get_put_same m (.smap []) (M.put p (jbox c.kind c.int c.text (.sl false (c.keys.map strCells)) (.sl false (c.list.map J.cells))))) hq (x := cbox m false)
  have k4 := AHeap.get_put_same q (cbox m false) ((M.put p (jbox c.kind c.int c.text (.sl false (c.keys.map strCells)) (.sl false (c.list.map J.cells)))).put m (.smap []))
  have hE1 := ((hE.over (o := (jbox c.kind c.int c.text (.sl false (c.keys.map strCells)) (.sl false (c.list.map J.cells)))) hp).put hm (ob := .smap [])).put hq (ob := cbox m false)
  have hHm : H.get m = none := none_of_ext (hE.over (o := (jbox c.kind c.int c.text (.sl false (c.keys.map strCells)) (.sl false (c.list.map J.cells)))) hp) hm
  have hHq : H.get q = none := none_of_ext ((hE.over (o := (jbox c.kind c.int c.text (.sl false (c.keys.map strCells)) (.sl false (c.list.map J.cells)))) hp).put hm (ob := .smap [])) hq
  have hpm : p ≠ m := get_ne_fresh (AHeap.get_put_same p (jbox c.kind c.int c.text (.sl false (c.keys.map strCells)) (.sl false (c.list.map J.cells))) M) hm
  have hrm : r ≠ m := get_ne_fresh (get_other (x := (jbox c.kind c.int c.text (.sl false (c.keys.map strCells)) (.sl false (c.list.map J.cells)))) g2 hpr.symm) hm
  have hmq : m ≠ q := get_ne_fresh (AHeap.get_put_same m (.smap []) (M.put p (jbox c.kind c.int c.text (.sl false (c.keys.map strCells)) (.sl false (c.list.map J.cells))))) hq
  generalize ((M.put p (jbox c.kind c.int c.text (.sl false (c.keys.map strCells)) (.sl false (c.list.map J.cells)))).put m (.smap [])).put q (cbox m false) = M1 at k1 k2 k3 k4 hE1 ⊢
  clear g1 g2 hE
  ((iterate 3 (apply s_q; decide; rfl; (simp only [go_sem, k1]; rfl))); refine s_nil (hK _ _ ?_); clear hK K; apply AWp_block)
  refine AWp_loop_s (σ := Nat × AHeap) [1, 2, 3, 4, 23, 24, 25] (fun s => [ptrTo p, ptrTo r, .v (.int .i64 0), ptrTo q, .sl false (c.keys.map strCells), .v (.int .i64 (c.keys.length : Nat)), .v (.int .i64 s.1)]) (fun s => s.2) (fun s => c.keys.length - s.1)
    (fun s => s.1 ≤ c.keys.length ∧ s.2.get p = some (jbox c.kind c.int c.text (.sl false (c.keys.map strCells)) (.sl false (c.list.map J.cells))) ∧ s.2.get r = some lvz ∧ s.2.get m = some (.smap (kvE (z.take s.1))) ∧ s.2.get q = some (cbox m false) ∧ Ext H s.2)
    (0, M1) ⟨Nat.zero_le _, k1, k2, k3, k4, hE1⟩ (by simp only [getAll, List.map_cons, List.map_nil, AFr.get, reduceIte, Nat.reduceEqDiff, List.length_map]; rfl) rfl (fun s hs => ?_)
  obtain ⟨n, L⟩ := s
  obtain ⟨hn, hpL, hrL, hmL, hqL, hEL⟩ := hs
  simp only [List.zip_cons_cons, List.zip_nil_right] at hn hpL hrL hmL hqL hEL ⊢
  clear k1 k2 k3 k4 hE1
  (apply sR; intro K hK; refine qr ?_; refine s_nil (hK _ _ ?_); clear hK K; apply sK; intro K hK)
  refine cs (fun hd => ?_) (fun hd => ?_)
  · have hlt : n < c.keys.length := by simpa using hd
    obtain ⟨ky, hky⟩ := gete hlt
    have hgk := jstr_at hky
    obtain ⟨x, hx⟩ := gete (l := c.list) (i := n) (by omega)
    have hgx := jget_at hx
    have hzn : z[n]? = some (ky, x) := by rw [hz, List.getElem?_zip_eq_some]; exact ⟨hky, hx⟩
    have ht : z.take (n + 1) = z.take n ++ [(ky, x)] := take_succ hzn
    (refine AWp_skip (hK _ _ ?_); clear hK K; apply sK; intro K hK; apply AWp_block; apply sR; intro K hK; (iterate 5 (apply s_q; decide; rfl; (simp only [go_sem, hgk, hqL, hpL]; rfl))); refine s_nil (hK _ _ ?_); clear hK K)
    apply AWp_drawA [0, 1, 2, 3, 4, 5, 6, 7, 8, 9] [10] 0 (by exact mixed); kernel_rfl; (iterate 2 (simp only [go_sem]; rfl))
    ((iterate 10 (apply e_q; decide; (simp only [go_sem, hpL, hqL, hmL, hgx]; rfl))); apply e_nil; apply t_mapput; rfl; (iterate 4 (simp only [go_sem, hpL, hqL, hmL, hgx]; rfl)); refine t_nil (hK _ _ ?_); clear hK K; apply s_region; (iterate 2 (apply s_q; decide; rfl; (simp only [go_sem, hpL, hqL, hmL, hgx]; rfl))); apply s_nil; simp only [AThen, ABlock])
    refine ⟨(n + 1, _), by simp only; omega, ⟨by simp only; omega, get_other hpL hpm, get_other hrL hrm, ?_, get_other hqL hmq.symm, hEL.over hHm⟩, ?_, by trivial⟩
    · simp only [ht]
      rw [show kvE (z.take n ++ [(ky, x)]) = kput ky (.agg x.cells) (kvE (z.take n)) by rw [kvE, List.foldl_append]; rfl, J.cells_eq]
      exact AHeap.get_put_same _ _ _
    · simp only [getAll, List.map, AFr.get, reduceIte, Nat.reduceEqDiff]
      rw [wrapS hlt (by omega)]; try rfl
  · have hge : c.keys.length ≤ n := by simpa using hd
    have htk : z.take n = z := List.take_of_length_le (by rw [hz, List.length_zip]; omega)
    rw [htk] at hmL
    (apply AWp_exit; simp only [AThen, ABlock, reduceIte, Nat.reduceEqDiff])
    refine hK1 _ _ ?_
    have hrq : r ≠ q := by rintro rfl; rw [hrL] at hqL; cases hqL
    have hmm : ∀ b, (L.put q (cbox m b)).get m = some (.smap (kvE z)) := fun b => get_other hmL hmq
    have hL : L = L.put q (cbox m false) := (put_self hqL).symm
    rw [hL]
    rw [← hz] at h
    have hkv := fun k => kvE_find k z
    obtain ⟨G, hG⟩ : ∃ G, G = jlast z := ⟨_, rfl⟩
    rw [← hG] at h hkv
    have hnm : ∀ (k : List UInt8) (x : J), G k = some x → (x.keys.length ≤ 1000000000 ∧ x.keys.length ≤ x.list.length) ∧ ∀ k ∈ x.keys, k.length < 4294967281 := fun k x hx => by
      rw [hG] at hx
      rcases jlast_mem (o := none) hx with hx | ⟨pr, hpr1, hpr2⟩
      · cases hx
      obtain ⟨ky, y⟩ := pr
      rw [hz] at hpr1
      have hyc := (List.of_mem_zip hpr1).2
      have hy2 : y = x := hpr2
      subst hy2
      rw [hcc] at hyc
      obtain ⟨w, hw, rfl⟩ := ord_list h5 (shaped_map (good_shaped hg) h5).1 hyc
      obtain ⟨mm, _, hgl⟩ := good_list hg
      exact ord_keys (hgl w hw) ((fit_eq.1 hf).2.2.2 w hw) (hs.2 w hw)
    have hrr : ∀ b, (L.put q (cbox m b)).get r = some lvz := fun b => get_other hrL hrq
    have hEE : ∀ b, Ext H (L.put q (cbox m b)) := fun b => hEL.over hHq
    (apply sR; intro K hK; apply s_q; decide; rfl; (simp only [go_sem, hrL]; rfl); apply s_call; decide; (iterate 2 (simp only [go_sem, hrL]; rfl)); refine number_c q m _ _ _ _ (hkv _) _ _ (AHeap.get_put_same _ _ _) (hmm _) _ ?_; rw [AHeap.put_put]; apply s_q; decide; rfl; (simp only [go_sem, hrL]; rfl); apply s_call; decide; (iterate 2 (simp only [go_sem, hrL]; rfl)); refine number_c q m _ _ _ _ (hkv _) _ _ (AHeap.get_put_same _ _ _) (hmm _) _ ?_; rw [AHeap.put_put]; apply s_q; decide; rfl; (simp only [go_sem, hrL]; rfl); apply s_call; decide; (iterate 2 (simp only [go_sem, hrL]; rfl)); refine number_c q m _ _ _ _ (hkv _) _ _ (AHeap.get_put_same _ _ _) (hmm _) _ ?_; rw [AHeap.put_put]; apply s_q; decide; rfl; (simp only [go_sem, hrL]; rfl); apply s_call; decide; (iterate 2 (simp only [go_sem, hrL]; rfl)); refine number_c q m _ _ _ _ (hkv _) _ _ (AHeap.get_put_same _ _ _) (hmm _) _ ?_; rw [AHeap.put_put]; apply s_q; decide; rfl; (simp only [go_sem, hrL]; rfl); apply s_call; decide; (iterate 2 (simp only [go_sem, hrL]; rfl)); refine number_c q m _ _ _ _ (hkv _) _ _ (AHeap.get_put_same _ _ _) (hmm _) _ ?_; rw [AHeap.put_put]; apply s_q; decide; rfl; (simp only [go_sem, hrL]; rfl); apply s_call; decide; (iterate 2 (simp only [go_sem, hrL]; rfl)); refine number_c q m _ _ _ _ (hkv _) _ _ (AHeap.get_put_same _ _ _) (hmm _) _ ?_; rw [AHeap.put_put]; apply s_q; decide; rfl; (simp only [go_sem, hrL]; rfl); apply s_call; decide; (iterate 2 (simp only [go_sem, hrL]; rfl)); refine number_c q m _ _ _ _ (hkv _) _ _ (AHeap.get_put_same _ _ _) (hmm _) _ ?_; rw [AHeap.put_put]; apply s_q; decide; rfl; (simp only [go_sem, hrL]; rfl); apply s_call; decide; (iterate 2 (simp only [go_sem, hrL]; rfl)); refine names_c q m _ _ _ _ (hkv _) _ isUserB (fun l hl H K hk => puserB_c l hl H K hk) (hnm _) _ (AHeap.get_put_same _ _ _) (hmm _) _ ?_; rw [AHeap.put_put]; apply s_q; decide; rfl; (simp only [go_sem, hrL]; rfl); apply s_call; decide; (iterate 2 (simp only [go_sem, hrL]; rfl)); refine names_c q m _ _ _ _ (hkv _) _ isType (fun l hl H K hk => type_c l H K hk) (hnm _) _ (AHeap.get_put_same _ _ _) (hmm _) _ ?_; rw [AHeap.put_put]; apply s_q; decide; rfl; (simp only [go_sem, hrL]; rfl); apply s_alloc; decide; exact zc_58; intro b hb; apply s_store; (iterate 3 (simp only [go_sem, hrL]; rfl)); refine s_nil (hK _ _ ?_); clear hK K; apply sK; intro K hK; apply sR; intro K hK; (iterate 3 (apply s_q; decide; rfl; (simp only [go_sem, hrL]; rfl))))
    have gq := fun (o : AObj) => get_fresh (x := o) (AHeap.get_put_same q (cbox m _) L) hb
    have gr := fun (o : AObj) => get_fresh (x := o) (hrr _) hb
    have gE := fun (o : AObj) => (hEE _).put (ob := o) hb
    (apply s_q; decide; rfl; (simp only [go_sem, gq]; rfl); refine s_nil (hK _ _ ?_); clear hK K)
    refine cs (fun hb9 => ?_) (fun hb9 => ?_)
    · have hn : lvOf G = none := by unfold lvOf; exact if_pos hb9
      rw [hn] at h
      (apply sR; intro K hK; apply s_q; decide; rfl; (simp only [go_sem, zc_levels, gr]; rfl); apply s_store; (iterate 3 (simp only [go_sem, zc_levels, gr]; rfl)); apply s_q; decide; rfl; (simp only [go_sem, zc_levels, gr]; rfl); refine s_nil (hK _ _ ?_); clear hK K; apply AWp_ret)
      try simp only [AThen, ABlock]
      refine end_ret (av := .tup [.agg [.v (.int .i64 0), .v (.int .i64 0), .v (.int .i64 0), .v (.int .i64 0), .v (.int .i64 0), .v (.int .i64 0), .v (.int .i64 0), .sl true [], .sl true []], .v (.int .i64 1)]) (by show resAV X.P _ _ [.cell 2 58, .tmp 3] = _; simp only [go_sem]; try rfl) ⟨_, _, Snap.trans Snap.loosen (Snap.drop ((gE _).over hHr)), h⟩
    · have hn := show lvOf G = some _ by unfold lvOf; exact if_neg (by rw [hb9]; decide)
      rw [hn] at h
      (refine AWp_skip (hK _ _ ?_); clear hK K; apply sR; intro K hK; apply s_q; decide; rfl; (simp only [go_sem, gr]; rfl); apply s_store; (iterate 3 (simp only [go_sem, gr]; rfl)); apply s_q; decide; rfl; (simp only [go_sem, gr]; rfl); refine s_nil (hK _ _ ?_); clear hK K; apply AWp_ret)
      try simp only [AThen, ABlock]
      refine end_ret (by show resAV X.P _ _ [.cell 2 58, .tmp 3] = _; simp only [go_sem]; try rfl) ⟨_, _, Snap.drop ((gE _).over hHr), h⟩

def jGet (j : J) (key : List UInt8) : Option J := if j.kind = 5 then ((j.keys.zip j.list).find? fun p => decide (p.1 = key)).map (·.2) else none
def getRes (o : Option J) : AV := match o with | some x => .tup [.agg x.cells, .v (.bool true)] | none => .tup [.agg (J.mk 0 0 [] [] []).cells, .v (.bool false)]
set_option maxHeartbeats 2000000 in
theorem get_c (j : J) (hl : j.keys.length ≤ 9223372036854775807 ∧ j.list.length ≤ 9223372036854775807) (key : List UInt8) (H : AHeap) (Kc : AV → AHeap → Prop) (h : Kc (getRes (jGet j key)) H) : ACall X 66 [.agg j.cells, .s key] H Kc := by
  refine ACall.post ?_
  rw [J.cells_eq]
  refine ACall_intro Tryz.func66 rfl (by kernel_rfl) (by rw [Tryz.ntmps66]; simp) ?_; rw [Tryz.ntmps66]; simp only [frame0, Nat.reduceAdd]
  apply sR; intro K hK
  apply s_box; decide; exact (by simp only [go_sem]; try rfl); exact (by simp only [go_sem]; try rfl); intro p hp
  apply s_alloc; decide; exact zc_json; intro r hr
  (refine qr ?_; refine s_nil (hK _ _ ?_); clear hK K; apply sK; intro K hK; apply sR; intro K hK; refine qr ?_)
  have g1 := get_fresh (AHeap.get_put_same p (jbox j.kind j.int j.text (.sl false (j.keys.map strCells)) (.sl false (j.list.map J.cells))) H) hr (x := jbox 0 0 [] (.sl true []) (.sl true []))
  have g2 := AHeap.get_put_same r (jbox 0 0 [] (.sl true []) (.sl true [])) (H.put p (jbox j.kind j.int j.text (.sl false (j.keys.map strCells)) (.sl false (j.list.map J.cells))))
  have hE := (Ext.fresh hp (o := jbox j.kind j.int j.text (.sl false (j.keys.map strCells)) (.sl false (j.list.map J.cells)))).put hr (ob := jbox 0 0 [] (.sl true []) (.sl true []))
  have hHr : H.get r = none := none_fresh hr
  generalize (H.put p (jbox j.kind j.int j.text (.sl false (j.keys.map strCells)) (.sl false (j.list.map J.cells)))).put r (jbox 0 0 [] (.sl true []) (.sl true [])) = M at g1 g2 hE ⊢
  rw [jGet] at h
  ((iterate 2 (apply s_q; decide; rfl; (simp only [go_sem, g1]; rfl))); refine s_nil (hK _ _ ?_); clear hK K)
  refine cs (fun hc => ?_) (fun hc => ?_)
  · have h5 : ¬ j.kind = 5 := by simpa using hc
    rw [if_neg h5] at h
    (apply sR; intro K hK; apply s_q; decide; rfl; (simp only [go_sem, zc_json, g2]; rfl); apply s_store; (iterate 3 (simp only [go_sem, zc_json, g2]; rfl)); apply s_q; decide; rfl; (simp only [go_sem, zc_json, g2]; rfl); refine s_nil (hK _ _ ?_); clear hK K; apply AWp_ret)
    try simp only [AThen, ABlock]
    refine end_ret (av := .tup [.agg [.v (.int .i64 0), .v (.int .i64 0), .s [], .sl true [], .sl true []], .v (.bool false)]) (by show resAV X.P _ _ [.cell 4 25, .tmp 5] = _; simp only [go_sem]; try rfl) ⟨_, _, Snap.trans Snap.loosen (Snap.drop (hE.over hHr)), h⟩
  have h5 : j.kind = 5 := by simpa using hc
  rw [if_pos h5] at h
  (refine AWp_skip (hK _ _ ?_); clear hK K; apply sK; intro K hK; apply sR; intro K hK; refine qr ?_; refine s_nil (hK _ _ ?_); clear hK K; apply AWp_block)
  have hzl : (j.keys.zip j.list).length = min j.keys.length j.list.length := List.length_zip
  refine AWp_loop_s (σ := Nat) [1, 2, 4, 5, 6] (fun i => [.s key, ptrTo p, ptrTo r, .v (.bool false), .v (.int .i64 i)]) (fun _ => M) (fun i => (j.keys.zip j.list).length - i) (fun i => i ≤ (j.keys.zip j.list).length ∧ ∀ x ∈ (j.keys.zip j.list).take i, decide (x.1 = key) = false) 0 ⟨Nat.zero_le _, by simp⟩ rfl rfl (fun i hi => ?_)
  obtain ⟨hi, hno⟩ := hi
  simp only [List.zip_cons_cons, List.zip_nil_right]
  (apply sK; intro K hK; apply sR; intro K hK; (iterate 6 (apply s_q; decide; rfl; (simp only [go_sem, g1]; rfl))); (iterate 2 (apply s_spec; decide; rfl; rfl; (iterate 4 (simp only [go_sem, g1]; rfl)); trivial)); (iterate 3 (apply s_spec; decide; rfl; rfl; (iterate 4 (simp only [go_sem, g1]; rfl)); simp [condsOk])); apply s_pick; decide; (iterate 6 (simp only [go_sem, g1]; rfl)); trivial; simp [condsOk]; trivial; refine s_nil (hK _ _ ?_); clear hK K)
  refine cs (fun hd => ?_) (fun hd => ?_)
  · have hlt : i < j.keys.length ∧ i < j.list.length := by simp at hd; omega
    obtain ⟨ky, hky⟩ := gete hlt.1
    obtain ⟨x, hx⟩ := gete hlt.2
    have hgk := jstr_at hky
    have hgx := jget_at hx
    have hz : (j.keys.zip j.list)[i]? = some (ky, x) := by rw [List.getElem?_zip_eq_some]; exact ⟨hky, hx⟩
    (refine AWp_skip (hK _ _ ?_); clear hK K; apply sK; intro K hK; apply AWp_block; apply sR; intro K hK; (iterate 7 (apply s_q; decide; rfl; (simp only [go_sem, g1, hgk]; rfl))); refine s_nil (hK _ _ ?_); clear hK K)
    refine cs (fun hq => ?_) (fun hq => ?_)
    · have hf : (j.keys.zip j.list).find? (fun p => decide (p.1 = key)) = some (ky, x) := by
        obtain ⟨hi', he⟩ := List.getElem?_eq_some_iff.1 hz
        rw [List.find?_eq_some_iff_getElem]
        refine ⟨hq, i, hi', he, fun k hk => ?_⟩
        have := hno _ (List.mem_take_iff_getElem.2 ⟨k, by omega, rfl⟩)
        simpa using this
      rw [hf] at h
      (apply sR; intro K hK; (iterate 5 (apply s_q; decide; rfl; (simp only [go_sem, g1, g2, hgx]; rfl))); apply s_store; (iterate 3 (simp only [go_sem, g1, g2, hgx]; rfl)); apply s_q; decide; rfl; (simp only [go_sem, g1, g2, hgx]; rfl); refine s_nil (hK _ _ ?_); clear hK K; apply AWp_ret)
      try simp only [AThen, ABlock]
      refine end_ret (av := .tup [.agg x.cells, .v (.bool true)]) (by show resAV X.P _ _ [.cell 4 25, .tmp 5] = _; simp only [go_sem, J.cells_eq x]; try rfl) ⟨_, _, Snap.drop (hE.over hHr), h⟩
    · (refine AWp_skip (hK _ _ ?_); clear hK K; apply s_region; (iterate 3 (refine qr ?_)); apply s_nil; simp only [AThen, ABlock])
      refine ⟨i + 1, by omega, ⟨by omega, ?_⟩, ?_, by trivial⟩
      · rw [List.take_add_one, hz]
        intro y hy
        rcases List.mem_append.1 hy with hy | hy
        · exact hno y hy
        · simp at hy; subst hy; exact hq
      · simp only [getAll, List.map, AFr.get, reduceIte, Nat.reduceEqDiff]
        rw [wrapS hlt.1 (by omega)]; try rfl
  · have hge : (j.keys.zip j.list).length ≤ i := by simp at hd; omega
    rw [List.take_of_length_le hge] at hno
    have hf : (j.keys.zip j.list).find? (fun p => decide (p.1 = key)) = none := by rw [List.find?_eq_none]; intro x hx; simp [hno x hx]
    rw [hf] at h
    (apply AWp_exit; simp only [AThen, ABlock, reduceIte, Nat.reduceEqDiff]; clear hK K; refine hK _ _ ?_; clear hK K; apply sR; intro K hK; apply s_q; decide; rfl; (simp only [go_sem, zc_json, g2]; rfl); apply s_store; (iterate 3 (simp only [go_sem, zc_json, g2]; rfl)); apply s_q; decide; rfl; (simp only [go_sem, zc_json, g2]; rfl); refine s_nil (hK _ _ ?_); clear hK K; apply AWp_ret)
    try simp only [AThen, ABlock]
    refine end_ret (av := .tup [.agg [.v (.int .i64 0), .v (.int .i64 0), .s [], .sl true [], .sl true []], .v (.bool false)]) (by show resAV X.P _ _ [.cell 4 25, .tmp 5] = _; simp only [go_sem]; try rfl) ⟨_, _, Snap.trans Snap.loosen (Snap.drop (hE.over hHr)), h⟩
end Go.Proofs.YtcpfgjfiacfmoaaGreatDoor

set_option linter.unusedSimpArgs false
set_option linter.unusedVariables false
set_option maxRecDepth 100000
namespace Go.Proofs.YtcpfgjfiacfmoaaGreatDoor
open Go Go.AL

theorem jlast_none {k : List UInt8} : ∀ {l : List (List UInt8 × J)} {o : Option J}, (∀ p ∈ l, p.1 ≠ k) → l.foldl (fun o p => if p.1 = k then some p.2 else o) o = o
  | [], o, _ => rfl
  | p :: l, o, h => by
    rw [List.foldl_cons, if_neg (h p (by simp))]
    exact jlast_none (fun q hq => h q (by simp [hq]))
theorem jlast_of {l : List (List UInt8 × J)} {k : List UInt8} {x : J} (hn : (l.map (·.1)).Nodup) (hm : (k, x) ∈ l) : jlast l k = some x := by
  obtain ⟨a, b, rfl⟩ := List.append_of_mem hm
  rw [jlast, List.foldl_append, List.foldl_cons, if_pos rfl]
  refine jlast_none (fun p hp => ?_)
  rintro rfl
  rw [List.map_append, List.map_cons] at hn
  have h2 := (List.nodup_append.1 hn).2.1
  rw [List.nodup_cons] at h2
  exact h2.1 (List.mem_map.2 ⟨p, hp, rfl⟩)
theorem jlast_not {l : List (List UInt8 × J)} {k : List UInt8} (h : ∀ p ∈ l, p.1 ≠ k) : jlast l k = none := jlast_none h
theorem ord_zip {j : J} (h5 : j.kind = 5) : j.ord.keys.zip j.ord.list = (placesOf j.keys).map fun i => (j.keys.getD i [], (j.list.map J.ord).getD i (.mk 0 0 [] [] [])) := by
  rw [ord_eq, if_pos h5]
  simp only [J.keys, J.list]
  exact List.zip_map'
theorem places_nodup (ks : List (List UInt8)) : (placesOf ks).Nodup := (places_perm ks).nodup_iff.2 List.nodup_range
theorem places_mem {ks : List (List UInt8)} {i : Nat} (h : i < ks.length) : i ∈ placesOf ks := (places_perm ks).mem_iff.2 (List.mem_range.2 h)
theorem ord_nodup {j : J} (h5 : j.kind = 5) (hn : j.keys.Nodup) : ((j.ord.keys.zip j.ord.list).map (·.1)).Nodup := by
  rw [ord_zip h5, List.map_map]
  refine List.pairwise_map.2 ((places_nodup j.keys).imp_of_mem fun {a b} ha hb hab e => hab ?_)
  exact nodup_getD hn (places_lt ha) (places_lt hb) e
theorem look {j : J} {n : Nat} (hg : goodB n j = true) (h5 : j.kind = 5) (k : List UInt8) : jlast (j.ord.keys.zip j.ord.list) k = (jGet j k).map J.ord := by
  obtain ⟨s1, s2, _⟩ := shaped_map (good_shaped hg) h5
  rw [jGet, if_pos h5]
  cases hf : (j.keys.zip j.list).find? (fun p => decide (p.1 = k)) with
  | none =>
    rw [List.find?_eq_none] at hf
    refine jlast_not fun p hp => ?_
    rw [ord_zip h5] at hp
    obtain ⟨i, hi, rfl⟩ := List.mem_map.1 hp
    have hlt := places_lt hi
    have hm : (j.keys[i], j.list[i]'(by omega)) ∈ j.keys.zip j.list := List.mem_iff_getElem.2 ⟨i, by rw [List.length_zip]; omega, by simp⟩
    have := hf _ hm
    simp only [decide_eq_true_eq] at this
    simp only [List.getD_eq_getElem?_getD, List.getElem?_eq_getElem hlt]
    exact this
  | some p =>
    obtain ⟨k', x⟩ := p
    have e : k' = k := by simpa using List.find?_some hf
    subst e
    obtain ⟨i, hi, he⟩ := List.mem_iff_getElem.1 (List.mem_of_find?_eq_some hf)
    rw [List.length_zip] at hi
    rw [List.getElem_zip] at he
    obtain ⟨e1, e2⟩ := Prod.mk.inj he
    show _ = some x.ord
    refine jlast_of (ord_nodup h5 s2) ?_
    rw [ord_zip h5]
    refine List.mem_map.2 ⟨i, places_mem (by omega), ?_⟩
    rw [List.getD_eq_getElem?_getD, List.getD_eq_getElem?_getD, List.getElem?_map, List.getElem?_eq_getElem (by omega : i < j.keys.length), List.getElem?_eq_getElem (by omega : i < j.list.length), e1, e2]
    rfl
def putJ (c : J) (k : List UInt8) (m : J) : J := .mk 5 0 [] (c.keys ++ [k]) (c.list ++ [m])
theorem put_kind (c m : J) (k : List UInt8) : (putJ c k m).kind = 5 := rfl
theorem put_keys (c m : J) (k : List UInt8) : (putJ c k m).keys = c.keys ++ [k] := rfl
theorem put_list (c m : J) (k : List UInt8) : (putJ c k m).list = c.list ++ [m] := rfl
theorem get_put {c m : J} {k : List UInt8} (h5 : c.kind = 5) (hl : c.keys.length = c.list.length) (hnew : jGet c k = none) (q : List UInt8) : jGet (putJ c k m) q = if q = k then some m else jGet c q := by
  have e : (c.keys ++ [k]).zip (c.list ++ [m]) = c.keys.zip c.list ++ [(k, m)] := by rw [List.zip_append hl]; rfl
  rw [jGet, if_pos h5] at hnew
  rw [jGet, jGet, if_pos h5]
  simp only [put_kind, put_keys, put_list, if_true, e, List.find?_append]
  by_cases h : q = k
  · subst h
    rw [if_pos rfl]
    have : (c.keys.zip c.list).find? (fun p => decide (p.1 = q)) = none := by simpa using hnew
    rw [this]; simp
  · rw [if_neg h]
    cases (c.keys.zip c.list).find? (fun p => decide (p.1 = q)) with
    | some p => rfl
    | none => simp [Ne.symm h]
theorem lvParse_look {c : J} (h5 : c.kind = 5) (hg : goodB 12 c = true) : lvParse c = lvOf (fun k => (jGet c k).map J.ord) := by
  rw [lvParse, if_pos h5, if_pos hg]
  congr 1
  funext k
  exact look hg h5 k
end Go.Proofs.YtcpfgjfiacfmoaaGreatDoor

set_option linter.unusedSimpArgs false
set_option linter.unusedVariables false
set_option maxRecDepth 100000
namespace Go.Proofs.YtcpfgjfiacfmoaaGreatDoor
open Go Go.AL
attribute [local irreducible] AOps AWp SOps AE AT ACall AApp

theorem rsmall_c (c : Int) (H : AHeap) (K : AV → AHeap → Prop) (h : K (.v (.bool (smallB c))) H) : ACall X 143 [.v (.int .u8 c)] H K := by
  refine ACall_intro Tryz.func143 rfl (by kernel_rfl) (by rw [Tryz.ntmps143]; simp) ?_; rw [Tryz.ntmps143]; simp only [frame0, Nat.reduceAdd]
  (apply sR; intro K hK; refine qr ?_; refine s_nil (hK _ _ ?_); clear hK K; apply sR; intro K hK; (iterate 3 (refine qr ?_)); refine sp ?_; refine sp ?_; apply s_pick; decide; (iterate 6 (simp only [go_sem]; rfl)); trivial; simp [condsOk]; trivial; refine qr ?_; refine sp ?_; (iterate 2 (refine sp ?_)); refine sp ?_; refine sp ?_; apply s_pickg; decide; (iterate 8 (simp only [go_sem]; rfl)); simp [condsOk]; simp [condsOk]; trivial; apply s_pick; decide; (iterate 6 (simp only [go_sem]; rfl)); trivial; trivial; simp [condsOk]; refine qr ?_; refine sp ?_; refine sp ?_; apply s_pick; decide; (iterate 6 (simp only [go_sem]; rfl)); trivial; trivial; simp [condsOk]; refine qr ?_; refine s_nil (hK _ _ ?_); clear hK K; apply AWp_ret)
  refine finB h ?_
  unfold smallB
  generalize decide (97 ≤ c) = a1, decide (c ≤ 122) = a2, decide (48 ≤ c) = a3, decide (c ≤ 57) = a4, decide (c = 46) = a5
  revert a1 a2 a3 a4 a5; decide
set_option maxHeartbeats 1000000 in
theorem rtype4_c (l : List UInt8) (hl : l.length ≤ 4611686018427387904) (H : AHeap) (K : AV → AHeap → Prop) (h : K (.v (.bool (isType l))) H) : ACall X 109 [.s l] H K := by
  refine ACall_intro Tryz.func109 rfl (by kernel_rfl) (by rw [Tryz.ntmps109]; simp) ?_; rw [Tryz.ntmps109]; simp only [frame0, Nat.reduceAdd]
  (apply sR; intro K hK; refine qr ?_; refine s_nil (hK _ _ ?_); clear hK K; apply sK; intro K hK; apply sR; intro K hK; (iterate 4 (refine qr ?_)); refine sp ?_; (iterate 2 (refine sp ?_)); apply s_pick; decide; (iterate 6 (simp only [go_sem]; rfl)); trivial; trivial; simp [condsOk]; refine s_nil (hK _ _ ?_); clear hK K)
  refine cs (fun hc => ?_) (fun hc => ?_)
  · (apply sR; intro K hK; refine qr ?_; refine s_nil (hK _ _ ?_); clear hK K; apply AWp_ret; simp only [AThen, ABlock]; apply end_ret; rfl; simp only [AFr.get, reduceIte, Nat.reduceEqDiff])
    refine finB h ?_
    rw [isType, ofB]
    by_cases h0 : l = []
    · simp [h0]
    · have : 0 < l.length := List.length_pos_iff.2 h0
      have : ¬ (l.length : Int) ≤ 64 := by simp at hc; omega
      simp [this]
  have hl1 : l ≠ [] := by rintro rfl; simp at hc
  have hl2 : (l.length : Int) ≤ 64 := by simp at hc; omega
  (refine AWp_skip (hK _ _ ?_); clear hK K; apply sK; intro K hK; apply sR; intro K hK; refine qr ?_; refine s_nil (hK _ _ ?_); clear hK K; apply AWp_block)
  refine AWp_loop_s (σ := Nat) [0, 3] (fun i => [.s l, .v (.int .i64 i)]) (fun _ => H) (fun i => l.length - i) (fun i => i ≤ l.length ∧ (l.take i).all (fun c => typeB c.toNat) = true) 0 ⟨Nat.zero_le _, rfl⟩ rfl rfl (fun i hi => ?_)
  simp only [List.zip_cons_cons, List.zip_nil_right]
  (apply sK; intro K hK; apply sR; intro K hK; (iterate 4 (refine qr ?_)); refine s_nil (hK _ _ ?_); clear hK K)
  refine cs (fun hd => ?_) (fun hd => ?_)
  · have hlt : i < l.length := by simpa using hd
    obtain ⟨c, hm⟩ := getc hlt
    (refine AWp_skip (hK _ _ ?_); clear hK K; apply sK; intro K hK; apply AWp_block; apply sR; intro K hK; (iterate 3 (apply s_q; decide; rfl; (simp only [go_sem, hm]; rfl))); apply s_call; decide; (iterate 2 (simp only [go_sem, hm]; rfl)); apply rsmall_c; (iterate 2 (apply s_q; decide; rfl; (simp only [go_sem, hm]; rfl))); (iterate 2 (apply s_spec; decide; rfl; rfl; (iterate 4 (simp only [go_sem, hm]; rfl)); trivial)); apply s_when; decide; (iterate 3 (simp only [go_sem, hm]; rfl)); simp [condsOk]; (intro hg; simp only [go_sem, hm]; try rfl); apply s_spec; decide; rfl; rfl; (iterate 4 (simp only [go_sem, hm]; rfl)); simp [condsOk]; apply s_pick; decide; (iterate 6 (simp only [go_sem, hm]; rfl)); trivial; simp [condsOk]; trivial; refine s_nil (hK _ _ ?_); clear hK K)
    refine cs (fun hq => ?_) (fun hq => ?_)
    · have hq' : typeB c.toNat = false := by
        unfold typeB; revert hq
        cases smallB (c.toNat : Int) <;> simp
      (apply sR; intro K hK; refine qr ?_; refine s_nil (hK _ _ ?_); clear hK K; apply AWp_ret; simp only [AThen, ABlock]; apply end_ret; rfl; simp only [AFr.get, reduceIte, Nat.reduceEqDiff])
      refine finB h ?_
      rw [isType, ofB, not_all hm (by simpa using hq'), Bool.and_false]
    · have hq' : typeB c.toNat = true := by
        unfold typeB; revert hq
        cases smallB (c.toNat : Int) <;> simp <;> omega
      (refine AWp_skip (hK _ _ ?_); clear hK K; apply s_region; (iterate 3 (refine qr ?_)); apply s_nil; simp only [AThen, ABlock])
      refine ⟨i + 1, by omega, ⟨by omega, ?_⟩, ?_, by trivial⟩
      · rw [all_take hm hi.2]; simpa using hq'
      · simp only [getAll, List.map, AFr.get, reduceIte, Nat.reduceEqDiff]
        rw [wrapS hlt (by omega)]; try rfl
  · have hge : l.length ≤ i := by simpa using hd
    (apply AWp_exit; simp only [AThen, ABlock, reduceIte, Nat.reduceEqDiff]; clear hK K; refine hK _ _ ?_; clear hK K; apply sR; intro K hK; refine qr ?_; refine s_nil (hK _ _ ?_); clear hK K; apply AWp_ret)
    refine finB h ?_
    have ha : l.all (fun c => typeB c.toNat) = true := by rw [← hi.2, List.take_of_length_le hge]
    rw [isType, ofB, decide_eq_false hl1, decide_eq_true hl2, ha]; rfl
set_option maxHeartbeats 1000000 in
theorem rserver4_c (l : List UInt8) (hl : l.length ≤ 4611686018427387904) (H : AHeap) (K : AV → AHeap → Prop) (h : K (.v (.bool (isServer l))) H) : ACall X 174 [.s l] H K := by
  refine ACall_intro Tryz.func174 rfl (by kernel_rfl) (by rw [Tryz.ntmps174]; simp) ?_; rw [Tryz.ntmps174]; simp only [frame0, Nat.reduceAdd]
  (apply sR; intro K hK; refine qr ?_; refine s_nil (hK _ _ ?_); clear hK K; apply sK; intro K hK; apply sR; intro K hK; (iterate 4 (refine qr ?_)); refine sp ?_; (iterate 2 (refine sp ?_)); apply s_pick; decide; (iterate 6 (simp only [go_sem]; rfl)); trivial; trivial; simp [condsOk]; refine s_nil (hK _ _ ?_); clear hK K)
  refine cs (fun hc => ?_) (fun hc => ?_)
  · (apply sR; intro K hK; refine qr ?_; refine s_nil (hK _ _ ?_); clear hK K; apply AWp_ret; simp only [AThen, ABlock]; apply end_ret; rfl; simp only [AFr.get, reduceIte, Nat.reduceEqDiff])
    refine finB h ?_
    rw [isServer, ofB]
    by_cases h0 : l = []
    · simp [h0]
    · have : 0 < l.length := List.length_pos_iff.2 h0
      have : ¬ (l.length : Int) ≤ 32 := by simp at hc; omega
      simp [this]
  have hl1 : l ≠ [] := by rintro rfl; simp at hc
  have hl2 : (l.length : Int) ≤ 32 := by simp at hc; omega
  (refine AWp_skip (hK _ _ ?_); clear hK K; apply sK; intro K hK; apply sR; intro K hK; refine qr ?_; refine s_nil (hK _ _ ?_); clear hK K; apply AWp_block)
  refine AWp_loop_s (σ := Nat) [0, 3] (fun i => [.s l, .v (.int .i64 i)]) (fun _ => H) (fun i => l.length - i) (fun i => i ≤ l.length ∧ (l.take i).all (fun c => serverB c.toNat) = true) 0 ⟨Nat.zero_le _, rfl⟩ rfl rfl (fun i hi => ?_)
  simp only [List.zip_cons_cons, List.zip_nil_right]
  (apply sK; intro K hK; apply sR; intro K hK; (iterate 4 (refine qr ?_)); refine s_nil (hK _ _ ?_); clear hK K)
  refine cs (fun hd => ?_) (fun hd => ?_)
  · have hlt : i < l.length := by simpa using hd
    obtain ⟨c, hm⟩ := getc hlt
    (refine AWp_skip (hK _ _ ?_); clear hK K; apply sK; intro K hK; apply AWp_block; apply sR; intro K hK; (iterate 3 (apply s_q; decide; rfl; (simp only [go_sem, hm]; rfl))); apply s_call; decide; (iterate 2 (simp only [go_sem, hm]; rfl)); apply rsmall_c; (iterate 2 (apply s_q; decide; rfl; (simp only [go_sem, hm]; rfl))); (iterate 2 (apply s_spec; decide; rfl; rfl; (iterate 4 (simp only [go_sem, hm]; rfl)); trivial)); apply s_when; decide; (iterate 3 (simp only [go_sem, hm]; rfl)); simp [condsOk]; (intro hg; simp only [go_sem, hm]; try rfl); apply s_spec; decide; rfl; rfl; (iterate 4 (simp only [go_sem, hm]; rfl)); simp [condsOk]; apply s_pick; decide; (iterate 6 (simp only [go_sem, hm]; rfl)); trivial; simp [condsOk]; trivial; refine s_nil (hK _ _ ?_); clear hK K)
    refine cs (fun hq => ?_) (fun hq => ?_)
    · have hq' : serverB c.toNat = false := by
        unfold serverB; revert hq
        cases smallB (c.toNat : Int) <;> simp
      (apply sR; intro K hK; refine qr ?_; refine s_nil (hK _ _ ?_); clear hK K; apply AWp_ret; simp only [AThen, ABlock]; apply end_ret; rfl; simp only [AFr.get, reduceIte, Nat.reduceEqDiff])
      refine finB h ?_
      rw [isServer, ofB, not_all hm (by simpa using hq'), Bool.and_false]
    · have hq' : serverB c.toNat = true := by
        unfold serverB; revert hq
        cases smallB (c.toNat : Int) <;> simp <;> omega
      (refine AWp_skip (hK _ _ ?_); clear hK K; apply s_region; (iterate 3 (refine qr ?_)); apply s_nil; simp only [AThen, ABlock])
      refine ⟨i + 1, by omega, ⟨by omega, ?_⟩, ?_, by trivial⟩
      · rw [all_take hm hi.2]; simpa using hq'
      · simp only [getAll, List.map, AFr.get, reduceIte, Nat.reduceEqDiff]
        rw [wrapS hlt (by omega)]; try rfl
  · have hge : l.length ≤ i := by simpa using hd
    (apply AWp_exit; simp only [AThen, ABlock, reduceIte, Nat.reduceEqDiff]; clear hK K; refine hK _ _ ?_; clear hK K; apply sR; intro K hK; refine qr ?_; refine s_nil (hK _ _ ?_); clear hK K; apply AWp_ret)
    refine finB h ?_
    have ha : l.all (fun c => serverB c.toNat) = true := by rw [← hi.2, List.take_of_length_le hge]
    rw [isServer, ofB, decide_eq_false hl1, decide_eq_true hl2, ha]; rfl
set_option maxHeartbeats 1000000 in
theorem rlocal4_c (l : List UInt8) (hl : l.length ≤ 4611686018427387904) (H : AHeap) (K : AV → AHeap → Prop) (h : K (.v (.bool (isLocal l))) H) : ACall X 173 [.s l] H K := by
  refine ACall_intro Tryz.func173 rfl (by kernel_rfl) (by rw [Tryz.ntmps173]; simp) ?_; rw [Tryz.ntmps173]; simp only [frame0, Nat.reduceAdd]
  (apply sR; intro K hK; refine qr ?_; refine s_nil (hK _ _ ?_); clear hK K; apply sK; intro K hK; apply sR; intro K hK; (iterate 4 (refine qr ?_)); refine sp ?_; (iterate 2 (refine sp ?_)); apply s_pick; decide; (iterate 6 (simp only [go_sem]; rfl)); trivial; trivial; simp [condsOk]; refine s_nil (hK _ _ ?_); clear hK K)
  refine cs (fun hc => ?_) (fun hc => ?_)
  · (apply sR; intro K hK; refine qr ?_; refine s_nil (hK _ _ ?_); clear hK K; apply AWp_ret; simp only [AThen, ABlock]; apply end_ret; rfl; simp only [AFr.get, reduceIte, Nat.reduceEqDiff])
    refine finB h ?_
    rw [isLocal, ofB]
    by_cases h0 : l = []
    · simp [h0]
    · have : 0 < l.length := List.length_pos_iff.2 h0
      have : ¬ (l.length : Int) ≤ 32 := by simp at hc; omega
      simp [this]
  have hl1 : l ≠ [] := by rintro rfl; simp at hc
  have hl2 : (l.length : Int) ≤ 32 := by simp at hc; omega
  (refine AWp_skip (hK _ _ ?_); clear hK K; apply sK; intro K hK; apply sR; intro K hK; refine qr ?_; refine s_nil (hK _ _ ?_); clear hK K; apply AWp_block)
  refine AWp_loop_s (σ := Nat) [0, 3] (fun i => [.s l, .v (.int .i64 i)]) (fun _ => H) (fun i => l.length - i) (fun i => i ≤ l.length ∧ (l.take i).all (fun c => localB c.toNat) = true) 0 ⟨Nat.zero_le _, rfl⟩ rfl rfl (fun i hi => ?_)
  simp only [List.zip_cons_cons, List.zip_nil_right]
  (apply sK; intro K hK; apply sR; intro K hK; (iterate 4 (refine qr ?_)); refine s_nil (hK _ _ ?_); clear hK K)
  refine cs (fun hd => ?_) (fun hd => ?_)
  · have hlt : i < l.length := by simpa using hd
    obtain ⟨c, hm⟩ := getc hlt
    (refine AWp_skip (hK _ _ ?_); clear hK K; apply sK; intro K hK; apply AWp_block; apply sR; intro K hK; (iterate 3 (apply s_q; decide; rfl; (simp only [go_sem, hm]; rfl))); apply s_call; decide; (iterate 2 (simp only [go_sem, hm]; rfl)); apply rsmall_c; (iterate 2 (apply s_q; decide; rfl; (simp only [go_sem, hm]; rfl))); (iterate 2 (apply s_spec; decide; rfl; rfl; (iterate 4 (simp only [go_sem, hm]; rfl)); trivial)); apply s_when; decide; (iterate 3 (simp only [go_sem, hm]; rfl)); simp [condsOk]; (intro hg; simp only [go_sem, hm]; try rfl); apply s_spec; decide; rfl; rfl; (iterate 4 (simp only [go_sem, hm]; rfl)); simp [condsOk]; apply s_pick; decide; (iterate 6 (simp only [go_sem, hm]; rfl)); trivial; simp [condsOk]; trivial; apply s_q; decide; rfl; (simp only [go_sem, hm]; rfl); (iterate 2 (apply s_spec; decide; rfl; rfl; (iterate 4 (simp only [go_sem, hm]; rfl)); trivial)); apply s_when; decide; (iterate 3 (simp only [go_sem, hm]; rfl)); simp [condsOk]; (intro hg; simp only [go_sem, hm]; try rfl); apply s_spec; decide; rfl; rfl; (iterate 4 (simp only [go_sem, hm]; rfl)); simp [condsOk]; apply s_pick; decide; (iterate 6 (simp only [go_sem, hm]; rfl)); trivial; simp [condsOk]; trivial; refine s_nil (hK _ _ ?_); clear hK K)
    refine cs (fun hq => ?_) (fun hq => ?_)
    · have hq' : localB c.toNat = false := by
        unfold localB; revert hq
        cases smallB (c.toNat : Int) <;> simp
      (apply sR; intro K hK; refine qr ?_; refine s_nil (hK _ _ ?_); clear hK K; apply AWp_ret; simp only [AThen, ABlock]; apply end_ret; rfl; simp only [AFr.get, reduceIte, Nat.reduceEqDiff])
      refine finB h ?_
      rw [isLocal, ofB, not_all hm (by simpa using hq'), Bool.and_false]
    · have hq' : localB c.toNat = true := by
        unfold localB; revert hq
        cases smallB (c.toNat : Int) <;> simp <;> omega
      (refine AWp_skip (hK _ _ ?_); clear hK K; apply s_region; (iterate 3 (refine qr ?_)); apply s_nil; simp only [AThen, ABlock])
      refine ⟨i + 1, by omega, ⟨by omega, ?_⟩, ?_, by trivial⟩
      · rw [all_take hm hi.2]; simpa using hq'
      · simp only [getAll, List.map, AFr.get, reduceIte, Nat.reduceEqDiff]
        rw [wrapS hlt (by omega)]; try rfl
  · have hge : l.length ≤ i := by simpa using hd
    (apply AWp_exit; simp only [AThen, ABlock, reduceIte, Nat.reduceEqDiff]; clear hK K; refine hK _ _ ?_; clear hK K; apply sR; intro K hK; refine qr ?_; refine s_nil (hK _ _ ?_); clear hK K; apply AWp_ret)
    refine finB h ?_
    have ha : l.all (fun c => localB c.toNat) = true := by rw [← hi.2, List.take_of_length_le hge]
    rw [isLocal, ofB, decide_eq_false hl1, decide_eq_true hl2, ha]; rfl

theorem occ_one (t : List UInt8) (c : UInt8) (j : Nat) : Lib.occAt t [c] j = decide (t[j]? = some c) := by
  rw [Lib.occAt]
  have h : (t.drop j)[0]? = t[j]? := by rw [List.getElem?_drop, Nat.add_zero]
  cases hd : t.drop j with
  | nil => rw [hd] at h; rw [← h]; simp
  | cons b r =>
    rw [hd] at h
    rw [← h]
    by_cases e : c = b
    · subst e; simp [List.isPrefixOf]
    · simp [List.isPrefixOf, e, Ne.symm e]
theorem cut_found {w : List UInt8} {c : UInt8} {k : Nat} (h1 : w[k]? = some c) (h2 : ∀ j, j < k → w[j]? ≠ some c) : Lib.cut w [c] = (w.take k, w.drop (k + 1), true) := by
  have hk : k ≤ w.length := Nat.le_of_lt (List.getElem?_eq_some_iff.1 h1).1
  have hi : Lib.index w [c] = (k : Int) := Lib.index_first hk (by rw [occ_one]; simpa using h1) (fun j hj => by rw [occ_one]; simpa using h2 j hj)
  rw [Lib.cut, hi, if_pos (by omega)]
  rfl
theorem cut_none {w : List UInt8} {c : UInt8} (h : ∀ j : Nat, w[j]? ≠ some c) : Lib.cut w [c] = (w, [], false) := by
  have hi : Lib.index w [c] = -1 := by
    rcases Lib.index_spec w [c] with ⟨h1, _⟩ | ⟨i, _, _, h3, _⟩
    · exact h1
    · rw [occ_one] at h3; exact absurd (by simpa using h3) (h i)
  rw [Lib.cut, hi, if_neg (by decide)]
theorem idParts_not {l : List UInt8} (h : hasPre l [64] = false) : idParts [64] l = .tup [.s [], .s [], .v (.bool false)] := by
  have : idCut [64] l = none := by unfold idCut; simp [h]
  rw [idParts, this]
theorem idParts_none {w : List UInt8} (h : ∀ j : Nat, w[j]? ≠ some 58) : idParts [64] (64 :: w) = .tup [.s [], .s [], .v (.bool false)] := by
  have h1 : hasPre (64 :: w) [64] = true := by simp [hasPre]
  have : idCut [64] (64 :: w) = none := by unfold idCut; simp [h1, cut_none h]
  rw [idParts, this]
theorem idParts_at {w : List UInt8} {k : Nat} (h1 : w[k]? = some 58) (h2 : ∀ j, j < k → w[j]? ≠ some 58) : idParts [64] (64 :: w) = if (isLocal (w.take k) && isServer (w.drop (k + 1))) = true then .tup [.s (w.take k), .s (w.drop (k + 1)), .v (.bool true)] else .tup [.s [], .s [], .v (.bool false)] := by
  have h3 : hasPre (64 :: w) [64] = true := by simp [hasPre]
  rw [idParts]
  unfold idCut
  simp only [h3, if_true, Bool.true_and, List.length_singleton, List.drop_succ_cons, List.drop_zero, cut_found h1 h2]
  cases isLocal (w.take k) <;> cases isServer (w.drop (k + 1)) <;> rfl
set_option maxHeartbeats 1000000 in
theorem parts_c (l : List UInt8) (hl : l.length ≤ 4611686018427387904) (H : AHeap) (Kc : AV → AHeap → Prop) (h : Kc (idParts [64] l) H) : ACall X 160 [.v (.int .u8 64), .s l] H Kc := by
  refine ACall_intro Tryz.func160 rfl (by kernel_rfl) (by rw [Tryz.ntmps160]; simp) ?_; rw [Tryz.ntmps160]; simp only [frame0, Nat.reduceAdd]
  (apply sR; intro K hK; (iterate 3 (refine qr ?_)); refine s_nil (hK _ _ ?_); clear hK K; apply sK; intro K hK; apply sR; intro K hK; refine qr ?_; refine s_nil (hK _ _ ?_); clear hK K; apply AWp_block)
  cases l with
  | nil =>
    rw [idParts_not (by decide)] at h
    refine AWp_loop_s (σ := Nat) [0, 1, 7] (fun i => [.v (.int .u8 64), .s [], .v (.int .i64 1)]) (fun _ => H) (fun i => 0) (fun i => True) 0 trivial rfl rfl (fun i hi => ?_)
    simp only [List.zip_cons_cons, List.zip_nil_right]
    (apply sK; intro K hK; apply sR; intro K hK; (iterate 5 (refine qr ?_)); refine sp ?_; apply s_when (av := .v (.int .u8 0)); decide; (iterate 3 (simp only [go_sem]; rfl)); trivial; (focus (intro hg; first | (cases hg; done) | (simp at hg; done) | (simp at hg; omega))); (iterate 2 (refine sp ?_)); apply s_pick; decide; (iterate 6 (simp only [go_sem]; rfl)); trivial; trivial; trivial; refine s_nil (hK _ _ ?_); clear hK K)
    refine cs (fun hd => ?_) (fun hd => ?_)
    · simp at hd
    (apply AWp_exit; simp only [AThen, ABlock, reduceIte, Nat.reduceEqDiff]; clear hK K; refine hK _ _ ?_; clear hK K; apply sR; intro K hK; (iterate 3 (refine qr ?_)); refine s_nil (hK _ _ ?_); clear hK K; apply AWp_ret)
    exact h
  | cons b w =>
    by_cases hb : b = 64
    · subst hb
      have hwl : w.length + 1 ≤ 4611686018427387904 := hl
      refine AWp_loop_s (σ := Nat) [0, 1, 7] (fun k => [.v (.int .u8 64), .s (64 :: w), .v (.int .i64 ((k : Int) + 1))]) (fun _ => H) (fun k => w.length - k) (fun k => k ≤ w.length ∧ ∀ j, j < k → w[j]? ≠ some 58) 0 ⟨Nat.zero_le _, fun j hj => by omega⟩ rfl rfl (fun k hk => ?_)
      obtain ⟨hk, hno⟩ := hk
      simp only [List.zip_cons_cons, List.zip_nil_right]
      (apply sK; intro K hK; apply sR; intro K hK; (iterate 5 (refine qr ?_)); refine sp ?_; apply s_when; decide; (iterate 3 (simp only [go_sem]; rfl)); simp [condsOk]; (intro hg; simp only [go_sem]; try rfl); refine sp ?_; refine sp ?_; apply s_pick; decide; (iterate 6 (simp only [go_sem]; rfl)); trivial; simp [condsOk]; trivial; refine s_nil (hK _ _ ?_); clear hK K)
      have hw1 : IntKind.i64.wrap ((k : Int) + 1 + 1) = ((k + 1 : Nat) : Int) + 1 := by rw [wrap64 (by omega)]; omega
      refine cs (fun hd => ?_) (fun hd => ?_)
      · have hlt : k < w.length := by
          by_cases hlt : k < w.length
          · exact hlt
          · simp at hd; omega
        obtain ⟨c, hm⟩ := getc hlt
        have hgi : (64 :: w)[((k : Int) + 1).toNat]? = some c := by
          rw [show ((k : Int) + 1).toNat = k + 1 by omega, List.getElem?_cons_succ]; exact hm
        (refine AWp_skip (hK _ _ ?_); clear hK K; apply sK; intro K hK; apply AWp_block; apply sR; intro K hK; (iterate 4 (apply s_q; decide; rfl; (simp only [go_sem, hgi]; rfl))); refine s_nil (hK _ _ ?_); clear hK K)
        refine cs (fun hq => ?_) (fun hq => ?_)
        · have hc : c = 58 := by
            have : c.toNat = 58 := by simp at hq; omega
            exact UInt8.toNat_inj.1 (by rw [this]; rfl)
          subst hc
          rw [idParts_at hm hno] at h
          have z1 : (0 : Int) ≤ (k : Int) + 1 := by omega
          have z2 : ((k : Int) + 1).toNat = k + 1 := by omega
          have z3 : 1 ≤ k + 1 := by omega
          have z4 : k + 1 ≤ w.length + 1 := by omega
          have z5 : (0 : Int) ≤ ((k + 1 : Nat) : Int) + 1 := by omega
          have z6 : (((k + 1 : Nat) : Int) + 1).toNat = k + 2 := by omega
          have z7 : k + 2 ≤ w.length + 1 := by omega
          have z8 : List.drop (k + 2) (List.take (w.length + 1) (64 :: w)) = w.drop (k + 1) := by rw [List.take_of_length_le (by simp)]; rfl
          (apply sK; intro K hK; apply sR; intro K hK; (iterate 3 (apply s_q; decide; rfl; (simp only [go_sem, hw1, z1, z2, z3, z4, z5, z6, z7, List.length_cons]; rfl))); apply s_call; decide; (iterate 2 (simp only [go_sem, hw1, z1, z2, z3, z4, z5, z6, z7, List.length_cons]; rfl)); apply rlocal4_c _ (by simp; omega); apply s_q; decide; rfl; (simp only [go_sem, hw1, z1, z2, z3, z4, z5, z6, z7, List.length_cons]; rfl); (iterate 2 (apply s_spec; decide; rfl; rfl; (iterate 4 (simp only [go_sem, hw1, z1, z2, z3, z4, z5, z6, z7, List.length_cons]; rfl)); trivial)); apply s_spec; decide; rfl; rfl; (iterate 4 (simp only [go_sem, hw1, z1, z2, z3, z4, z5, z6, z7, List.length_cons]; rfl)); simp [condsOk]; apply s_when; decide; (iterate 3 (simp only [go_sem, hw1, z1, z2, z3, z4, z5, z6, z7, List.length_cons]; rfl)); simp [condsOk]; (intro hg; refine (show _ = some (AV.s (w.drop (k + 1))) from ?_); (focus (simp only [go_sem, z5, z6, z7, List.take_length, List.length_cons, Nat.le_refl]; done))); apply s_gpure; decide; (iterate 3 (simp only [go_sem, hw1, z1, z2, z3, z4, z5, z6, z7, List.length_cons]; rfl)); simp [condsOk]; (iterate 2 (simp only [go_sem, hw1, z1, z2, z3, z4, z5, z6, z7, List.length_cons]; rfl)); (apply rserver4_c _ (by simp; omega); exact ⟨rfl, rfl⟩); apply s_pick; decide; (iterate 6 (simp only [go_sem, hw1, z1, z2, z3, z4, z5, z6, z7, List.length_cons]; rfl)); trivial; simp [condsOk]; trivial; refine s_nil (hK _ _ ?_); clear hK K)
          refine cs (fun hp => ?_) (fun hp => ?_)
          · have hp' : (isLocal (w.take k) && isServer (w.drop (k + 1))) = true := by
              revert hp; cases isLocal (w.take k) <;> cases isServer (w.drop (k + 1)) <;> simp
            rw [if_pos hp'] at h
            (apply sK; intro K hK)
            apply AWp_drawA [0, 1, 2, 3, 4, 5, 6, 7, 8, 9] [] 0 (by exact mixed); kernel_rfl; (iterate 2 (simp only [go_sem]; rfl))
            ((iterate 10 (apply e_q; decide; (simp only [go_sem, hw1, z1, z2, z3, z4, z5, z6, z7, List.take_length, List.length_cons, Nat.le_refl]; rfl))); apply e_nil; refine t_nil (hK _ _ ?_); clear hK K; apply AWp_ret; simp only [AThen, ABlock]; apply end_ret; rfl; simp only [AFr.get, reduceIte, Nat.reduceEqDiff])
            exact h
          · have hp' : ¬ (isLocal (w.take k) && isServer (w.drop (k + 1))) = true := by
              revert hp; cases isLocal (w.take k) <;> cases isServer (w.drop (k + 1)) <;> simp
            rw [if_neg hp'] at h
            (refine AWp_skip (hK _ _ ?_); clear hK K; apply sR; intro K hK; (iterate 3 (refine qr ?_)); refine s_nil (hK _ _ ?_); clear hK K; apply AWp_ret; simp only [AThen, ABlock]; apply end_ret; rfl; simp only [AFr.get, reduceIte, Nat.reduceEqDiff])
            exact h
        · have hc : c ≠ 58 := by rintro rfl; simp at hq
          (refine AWp_skip (hK _ _ ?_); clear hK K; apply s_region; (iterate 3 (apply s_q; decide; rfl; (simp only [go_sem, hw1]; rfl))); apply s_nil; simp only [AThen, ABlock])
          refine ⟨k + 1, by omega, ⟨by omega, fun j hj => ?_⟩, ?_, by trivial⟩
          · rcases Nat.lt_succ_iff_lt_or_eq.1 hj with hj | rfl
            · exact hno j hj
            · rw [hm]; simpa using hc
          · simp only [getAll, List.map_cons, List.map_nil, AFr.get, reduceIte, Nat.reduceEqDiff, hw1]
            try rfl
      have hge : w.length ≤ k := by
        by_cases hlt : k < w.length
        · simp at hd; omega
        · omega
      rw [idParts_none (fun j => by
        by_cases hj : j < k
        · exact hno j hj
        · rw [List.getElem?_eq_none (by omega)]; simp)] at h
      (apply AWp_exit; simp only [AThen, ABlock, reduceIte, Nat.reduceEqDiff]; clear hK K; refine hK _ _ ?_; clear hK K; apply sR; intro K hK; (iterate 3 (refine qr ?_)); refine s_nil (hK _ _ ?_); clear hK K; apply AWp_ret)
      exact h
    · rw [idParts_not (by simp [hasPre, hb])] at h
      refine AWp_loop_s (σ := Nat) [0, 1, 7] (fun i => [.v (.int .u8 64), .s (b :: w), .v (.int .i64 1)]) (fun _ => H) (fun i => 0) (fun i => True) 0 trivial rfl rfl (fun i hi => ?_)
      simp only [List.zip_cons_cons, List.zip_nil_right]
      (apply sK; intro K hK; apply sR; intro K hK; (iterate 5 (refine qr ?_)); refine sp ?_; apply s_when; decide; (iterate 3 (simp only [go_sem]; rfl)); simp [condsOk]; (intro hg; simp only [go_sem]; try rfl); refine sp ?_; refine sp ?_; apply s_pick; decide; (iterate 6 (simp only [go_sem]; rfl)); trivial; simp [condsOk]; trivial; refine s_nil (hK _ _ ?_); clear hK K)
      refine cs (fun hd => ?_) (fun hd => ?_)
      · exfalso
        have : b.toNat = 64 := by
          by_cases hlt : 0 < w.length
          · simp at hd; omega
          · simp at hd; omega
        exact hb (UInt8.toNat_inj.1 (by rw [this]; rfl))
      (apply AWp_exit; simp only [AThen, ABlock, reduceIte, Nat.reduceEqDiff]; clear hK K; refine hK _ _ ?_; clear hK K; apply sR; intro K hK; (iterate 3 (refine qr ?_)); refine s_nil (hK _ _ ?_); clear hK K; apply AWp_ret)
      exact h
theorem ruser4_c (l : List UInt8) (hl : l.length ≤ 4611686018427387904) (H : AHeap) (K : AV → AHeap → Prop) (h : K (idParts [64] l) H) : ACall X 142 [.s l] H K := by
  obtain ⟨a, b, c, e⟩ : ∃ a b c, idParts [64] l = .tup [.s a, .s b, .v (.bool c)] := by
    unfold idParts; split <;> exact ⟨_, _, _, rfl⟩
  refine ACall_intro Tryz.func142 rfl (by kernel_rfl) (by rw [Tryz.ntmps142]; simp) ?_; rw [Tryz.ntmps142]; simp only [frame0, Nat.reduceAdd]
  (apply sR; intro K hK; (iterate 3 (refine qr ?_)); refine s_nil (hK _ _ ?_); clear hK K; apply sR; intro K hK; refine qr ?_; apply s_call; decide; (iterate 2 (simp only [go_sem]; rfl)); apply parts_c _ hl)
  rw [e] at h ⊢
  ((iterate 6 (refine qr ?_)); refine s_nil (hK _ _ ?_); clear hK K; apply AWp_ret)
  exact h
theorem risUser4_c (l : List UInt8) (hl : l.length ≤ 4611686018427387904) (H : AHeap) (K : AV → AHeap → Prop) (h : K (.v (.bool (match idCut [64] l with | some _ => true | none => false))) H) : ACall X 108 [.s l] H K := by
  obtain ⟨a, b, c, e, e2⟩ : ∃ a b c, idParts [64] l = .tup [.s a, .s b, .v (.bool c)] ∧ (match idCut [64] l with | some _ => true | none => false) = c := by
    rw [idParts]
    cases idCut [64] l with
    | none => exact ⟨_, _, _, rfl, rfl⟩
    | some p => exact ⟨_, _, _, rfl, rfl⟩
  rw [e2] at h
  refine ACall_intro Tryz.func108 rfl (by kernel_rfl) (by rw [Tryz.ntmps108]; simp) ?_; rw [Tryz.ntmps108]; simp only [frame0, Nat.reduceAdd]
  (apply sR; intro K hK; refine qr ?_; refine s_nil (hK _ _ ?_); clear hK K; apply sR; intro K hK; refine qr ?_; apply s_call; decide; (iterate 2 (simp only [go_sem]; rfl)); apply ruser4_c _ hl; refine qr ?_)
  rw [e]
  ((iterate 6 (refine qr ?_)); refine s_nil (hK _ _ ?_); clear hK K; apply sR; intro K hK; (iterate 2 (refine qr ?_)); refine s_nil (hK _ _ ?_); clear hK K; apply AWp_ret)
  exact h
end Go.Proofs.YtcpfgjfiacfmoaaGreatDoor
