/-
  Power: a content's numbers and names. Contracts.
-/
import Derived.Test.YtniaafncmnilgaaGreatDoorPE
set_option linter.unusedSimpArgs false
set_option linter.unusedVariables false
set_option maxRecDepth 100000
namespace Go.Proofs.YtniaafncmnilgaaGreatDoor
open Go Go.AL
attribute [local irreducible] AOps AWp SOps AE AT ACall AApp

theorem put_self {H : AHeap} {q : Nat} {o : AObj} (h : H.get q = some o) : H.put q o = H := by
  funext c
  show (H.put q o).get c = H.get c
  rw [AHeap.get_put]; split
  · rename_i e; subst e; exact h.symm
  · rfl
theorem ext_put2 {H : AHeap} {q b : Nat} {o x y : AObj} (hq : H.get q = some o) (hb : H.get b = none) : Ext (H.put q x) ((H.put b y).put q x) := fun c z hc => by
  rw [AHeap.get_put] at hc ⊢
  split
  · rename_i e; rw [if_pos e] at hc; exact hc
  · rename_i e
    rw [if_neg e] at hc
    rw [AHeap.get_put, if_neg (by rintro rfl; rw [hb] at hc; cases hc)]; exact hc
def numR (o : Option J) (n : Int) : Int := match o with | none => n | some j => j.int
def numB (o : Option J) (bad : Bool) : Bool := match o with | none => bad | some j => if bad = true then true else !levelB j
abbrev cbox (m : Nat) (bad : Bool) : AObj := .box 45 [.v (.map (some m)), .v (.bool bad)]
set_option maxHeartbeats 1000000 in
theorem number_c (q m : Nat) (bad : Bool) (es : List (List UInt8 × AV)) (key : List UInt8) (o : Option J) (hk : kfind key es = o.map fun x => AV.agg x.cells) (n : Int) (H : AHeap) (hq : H.get q = some (cbox m bad)) (hm : H.get m = some (.smap es)) (Kc : AV → AHeap → Prop)
    (h : Kc (.v (.int .i64 (numR o n))) (H.put q (cbox m (numB o bad)))) : ACall X 15 [ptrTo q, .s key, .v (.int .i64 n)] H Kc := by
  refine ACall.drop ?_
  refine ACall_intro Tryz.func15 rfl (by kernel_rfl) (by rw [Tryz.ntmps15]; simp) ?_; rw [Tryz.ntmps15]; simp only [frame0, Nat.reduceAdd]
  cases o with
  | none =>
    have hk : kfind key es = none := hk
    have h : Kc (.v (.int .i64 n)) (H.put q (cbox m bad)) := h
    rw [put_self hq] at h
    (refine AWp_seq_k (fun K hK => ?_); apply s_region; apply s_q; decide; rfl; (simp only [go_sem, hq, hm, hk]; rfl); apply s_nil; simp only [AThen, ABlock]; refine hK _ _ ?_; clear hK K; refine AWp_seq_k (fun K hK => ?_); apply s_region; (iterate 9 (apply s_q; decide; rfl; (simp only [go_sem, hq, hm, hk]; rfl))); apply s_alloc; decide; exact zc_25; intro b hb; apply s_store; (simp only [go_sem, hq, hm, hk]; rfl); (simp only [go_sem, hq, hm, hk]; rfl); (simp only [go_sem, hq, hm, hk]; rfl); apply s_q; decide; rfl; (simp only [go_sem, hq, hm, hk]; rfl); apply s_nil; simp only [AThen, ABlock]; refine hK _ _ ?_; clear hK K; (iterate 2 (refine AWp_seq_k (fun K hK => ?_))); apply s_region; (iterate 2 (apply s_q; decide; rfl; (simp only [go_sem, hq, hm, hk]; rfl))); apply s_nil; simp only [AThen, ABlock]; refine hK _ _ ?_; clear hK K)
    refine cond_split (by simp only [go_sem]; try rfl) (fun hc => ?_) (fun hc => ?_)
    rotate_left
    · cases hc
    (refine AWp_seq_k (fun K hK => ?_); apply s_region; (iterate 2 (apply s_q; decide; rfl; (simp only [go_sem]; rfl))); apply s_nil; simp only [AThen, ABlock]; refine hK _ _ ?_; clear hK K; apply AWp_ret; simp only [AThen, ABlock]; apply end_ret; rfl; simp only [AFr.get, reduceIte, Nat.reduceEqDiff])
    exact ⟨H, Ext.fresh hb, h⟩
  | some j =>
    have hk : kfind key es = some (.agg [.v (.int .i64 j.kind), .v (.int .i64 j.int), .s j.text, .sl false (j.keys.map strCells), .sl false (j.list.map J.cells)]) := by rw [hk, ← J.cells_eq]; rfl
    have h : Kc (.v (.int .i64 j.int)) (H.put q (cbox m (if bad = true then true else !levelB j))) := h
    (refine AWp_seq_k (fun K hK => ?_); apply s_region; apply s_q; decide; rfl; (simp only [go_sem, hq, hm, hk]; rfl); apply s_nil; simp only [AThen, ABlock]; refine hK _ _ ?_; clear hK K; refine AWp_seq_k (fun K hK => ?_); apply s_region; (iterate 9 (apply s_q; decide; rfl; (simp only [go_sem, hq, hm, hk]; rfl))); apply s_alloc; decide; exact zc_25; intro b hb; apply s_store; (simp only [go_sem, hq, hm, hk]; rfl); (simp only [go_sem, hq, hm, hk]; rfl); (simp only [go_sem, hq, hm, hk]; rfl); apply s_q; decide; rfl; (simp only [go_sem, hq, hm, hk]; rfl); apply s_nil; simp only [AThen, ABlock]; refine hK _ _ ?_; clear hK K; (iterate 2 (refine AWp_seq_k (fun K hK => ?_))); apply s_region; (iterate 2 (apply s_q; decide; rfl; (simp only [go_sem, hq, hm, hk]; rfl))); apply s_nil; simp only [AThen, ABlock]; refine hK _ _ ?_; clear hK K)
    refine cond_split (by simp only [go_sem]; try rfl) (fun hc => ?_) (fun hc => ?_)
    · cases hc
    have g1 := get_fresh hq hb (x := (.box 25 [.v (.int .i64 j.kind), .v (.int .i64 j.int), .s j.text, .sl false (j.keys.map strCells), .sl false (j.list.map J.cells)]))
    have g2 := AHeap.get_put_same b (.box 25 [.v (.int .i64 j.kind), .v (.int .i64 j.int), .s j.text, .sl false (j.keys.map strCells), .sl false (j.list.map J.cells)]) H
    (apply AWp_skip; simp only [AThen, ABlock]; refine hK _ _ ?_; clear hK K; refine AWp_seq_k (fun K hK => ?_); apply s_region; apply s_q; decide; rfl; (simp only [go_sem, g1, g2]; rfl); apply s_call; decide; (simp only [go_sem, g1, g2]; rfl); (simp only [go_sem, g1, g2]; rfl); refine ACall.args_eq (bs := [.agg j.cells]) ?_ ?_; (focus (rw [J.cells_eq j]; done)); apply level_c j; (iterate 5 (apply s_q; decide; rfl; (simp only [go_sem, g1, g2]; rfl))); apply s_nil; simp only [AThen, ABlock]; refine hK _ _ ?_; clear hK K; refine AWp_seq_k (fun K hK => ?_); apply s_region; (iterate 6 (apply s_q; decide; rfl; (simp only [go_sem, g1, g2]; rfl))); apply s_spec; decide; rfl; rfl; (simp only [go_sem, g1, g2]; rfl); (simp only [go_sem, g1, g2]; rfl); (simp only [go_sem, g1, g2]; rfl); (simp only [go_sem, g1, g2]; rfl); trivial; apply s_spec; decide; rfl; rfl; (simp only [go_sem, g1, g2]; rfl); (simp only [go_sem, g1, g2]; rfl); (simp only [go_sem, g1, g2]; rfl); (simp only [go_sem, g1, g2]; rfl); simp [condsOk]; apply s_pick; decide; (simp only [go_sem, g1, g2]; rfl); (simp only [go_sem, g1, g2]; rfl); (simp only [go_sem, g1, g2]; rfl); (simp only [go_sem, g1, g2]; rfl); (simp only [go_sem, g1, g2]; rfl); (simp only [go_sem, g1, g2]; rfl); trivial; trivial; simp [condsOk]; (iterate 2 (apply s_q; decide; rfl; (simp only [go_sem, g1, g2]; rfl))); apply s_store; (simp only [go_sem, g1, g2]; rfl); (simp only [go_sem, g1, g2]; rfl); (simp only [go_sem, g1, g2]; rfl); apply s_nil; simp only [AThen, ABlock]; refine hK _ _ ?_; clear hK K; refine AWp_seq_k (fun K hK => ?_); apply s_region; (iterate 2 (apply s_q; decide; rfl; (simp only [go_sem, g1, g2]; rfl))); apply s_nil; simp only [AThen, ABlock]; refine hK _ _ ?_; clear hK K; apply AWp_ret)
    exact ⟨H.put q _, ext_put2 hq hb, h⟩
theorem ext_reput {H L : AHeap} {q : Nat} {x y : AObj} (h : Ext (H.put q x) L) : Ext (H.put q y) (L.put q y) := fun c z hc => by
  rw [AHeap.get_put] at hc ⊢
  split
  · rename_i e; rw [if_pos e] at hc; exact hc
  · rename_i e; rw [if_neg e] at hc
    exact h c z (by rw [AHeap.get_put, if_neg e]; exact hc)
theorem rowAt_rebase {e sz q : Nat} {H L : AHeap} {es : List (List AV)} {a : AV} {x y : AObj} (h : RowAt e sz (H.put q x) L es a) : RowAt e sz (H.put q y) L es a := by
  rcases h with h | ⟨b, h1, h2, h3⟩
  · exact .inl h
  · refine .inr ⟨b, ?_, h2, h3⟩
    rw [AHeap.get_put] at h1 ⊢
    split at h1
    · cases h1
    · rename_i e; rw [if_neg e]; exact h1
theorem snap_at {e sz : Nat} {K0 L : AHeap} {es : List (List AV)} {a : AV} (h : RowAt e sz K0 L es a) (hE : Ext K0 L) : Snap X [a] L [.sl false es] K0 := by
  rcases h with ⟨rfl, rfl⟩ | ⟨b, h1, rfl, h3⟩
  · exact Snap.trans Snap.loosen (Snap.drop hE)
  · have h5 : Snap X [.row b sz es.length] L (AV.snaps b sz es [.row b sz es.length]) (L.put b (.row e sz true es)) := Snap.row h3
    simp only [AV.snaps, AV.snap] at h5
    rw [if_pos trivial, if_pos ⟨trivial, Nat.le_refl _⟩, List.take_length] at h5
    exact h5.trans (Snap.drop (Ext.over hE h1))
def namesL (l : List (List UInt8 × J)) : List Nm := l.map fun x => (x.1, x.2.int)
def namesB (p : List UInt8 → Bool) (bad : Bool) (l : List (List UInt8 × J)) : Bool := l.foldl (fun b x => if (if b = true then true else !levelB x.2) = true then true else !p x.1) bad
def namesR (o : Option J) : List Nm := match o with | none => [] | some j => namesL (j.keys.zip j.list)
def namesBad (p : List UInt8 → Bool) (o : Option J) (bad : Bool) : Bool := match o with | none => bad | some j => namesB p (if bad = true then true else !decide (j.kind = 5)) (j.keys.zip j.list)
set_option maxHeartbeats 2000000 in
theorem names_c (q m : Nat) (bad : Bool) (es : List (List UInt8 × AV)) (key : List UInt8) (o : Option J) (hk : kfind key es = o.map fun x => AV.agg x.cells) (g : FuncId) (pr : List UInt8 → Bool) (hg : ∀ (l : List UInt8), l.length < 4294967281 → ∀ (H : AHeap) (K : AV → AHeap → Prop), K (.v (.bool (pr l))) H → ACall X g [.s l] H K)
    (ho : ∀ j, o = some j → (j.keys.length ≤ 1000000000 ∧ j.keys.length ≤ j.list.length) ∧ ∀ k ∈ j.keys, k.length < 4294967281) (H : AHeap) (hq : H.get q = some (cbox m bad)) (hm : H.get m = some (.smap es)) (Kc : AV → AHeap → Prop)
    (h : Kc (.sl false ((namesR o).map nmCells)) (H.put q (cbox m (namesBad pr o bad)))) : ACall X 16 [ptrTo q, .s key, .fn (.func g) [] []] H Kc := by
  refine ACall.post ?_
  refine ACall_intro Tryz.func16 rfl (by kernel_rfl) (by rw [Tryz.ntmps16]; simp) ?_; rw [Tryz.ntmps16]; simp only [frame0, Nat.reduceAdd]
  cases o with
  | none =>
    have hk : kfind key es = none := hk
    have h : Kc (.sl false []) (H.put q (cbox m bad)) := h
    rw [put_self hq] at h
    (refine AWp_seq_k (fun K hK => ?_); apply s_region; apply s_q; decide; rfl; (simp only [go_sem, hq, hm, hk]; rfl); apply s_nil; simp only [AThen, ABlock]; refine hK _ _ ?_; clear hK K; refine AWp_seq_k (fun K hK => ?_); apply s_region; (iterate 9 (apply s_q; decide; rfl; (simp only [go_sem, hq, hm, hk]; rfl))); apply s_alloc; decide; exact zc_25; intro b hb; apply s_store; (simp only [go_sem, hq, hm, hk]; rfl); (simp only [go_sem, hq, hm, hk]; rfl); (simp only [go_sem, hq, hm, hk]; rfl); apply s_q; decide; rfl; (simp only [go_sem, hq, hm, hk]; rfl); apply s_nil; simp only [AThen, ABlock]; refine hK _ _ ?_; clear hK K; (iterate 2 (refine AWp_seq_k (fun K hK => ?_))); apply s_region; (iterate 2 (apply s_q; decide; rfl; (simp only [go_sem, hq, hm, hk]; rfl))); apply s_nil; simp only [AThen, ABlock]; refine hK _ _ ?_; clear hK K)
    refine cond_split (by simp only [go_sem]; try rfl) (fun hc => ?_) (fun hc => ?_)
    rotate_left
    · cases hc
    (refine AWp_seq_k (fun K hK => ?_); apply s_region; apply s_q; decide; rfl; (simp only [go_sem]; rfl); apply s_nil; simp only [AThen, ABlock]; refine hK _ _ ?_; clear hK K; apply AWp_ret; simp only [AThen, ABlock]; apply end_ret; rfl; simp only [AFr.get, reduceIte, Nat.reduceEqDiff])
    exact ⟨_, _, Snap.trans Snap.loosen (Snap.drop (Ext.fresh hb)), h⟩
  | some j =>
    obtain ⟨⟨f1, f2⟩, f3⟩ := ho j rfl
    have hk : kfind key es = some (.agg [.v (.int .i64 j.kind), .v (.int .i64 j.int), .s j.text, .sl false (j.keys.map strCells), .sl false (j.list.map J.cells)]) := by rw [hk, ← J.cells_eq]; rfl
    have h : Kc (.sl false ((namesL (j.keys.zip j.list)).map nmCells)) (H.put q (cbox m (namesB pr (if bad = true then true else !decide (j.kind = 5)) (j.keys.zip j.list)))) := h
    obtain ⟨b0, hb0⟩ : ∃ b0, b0 = (if bad = true then true else !decide (j.kind = 5)) := ⟨_, rfl⟩
    rw [← hb0] at h
    (refine AWp_seq_k (fun K hK => ?_); apply s_region; apply s_q; decide; rfl; (simp only [go_sem, hq, hm, hk]; rfl); apply s_nil; simp only [AThen, ABlock]; refine hK _ _ ?_; clear hK K; refine AWp_seq_k (fun K hK => ?_); apply s_region; (iterate 9 (apply s_q; decide; rfl; (simp only [go_sem, hq, hm, hk]; rfl))); apply s_alloc; decide; exact zc_25; intro b hb; apply s_store; (simp only [go_sem, hq, hm, hk]; rfl); (simp only [go_sem, hq, hm, hk]; rfl); (simp only [go_sem, hq, hm, hk]; rfl); apply s_q; decide; rfl; (simp only [go_sem, hq, hm, hk]; rfl); apply s_nil; simp only [AThen, ABlock]; refine hK _ _ ?_; clear hK K; (iterate 2 (refine AWp_seq_k (fun K hK => ?_))); apply s_region; (iterate 2 (apply s_q; decide; rfl; (simp only [go_sem, hq, hm, hk]; rfl))); apply s_nil; simp only [AThen, ABlock]; refine hK _ _ ?_; clear hK K)
    refine cond_split (by simp only [go_sem]; try rfl) (fun hc => ?_) (fun hc => ?_)
    · cases hc
    obtain ⟨p, hpb⟩ : ∃ p, p = b := ⟨_, rfl⟩
    have hp := hb
    rw [← hpb] at hp ⊢
    clear hb hpb b
    have g1 := get_fresh hq hp (x := (.box 25 [.v (.int .i64 j.kind), .v (.int .i64 j.int), .s j.text, .sl false (j.keys.map strCells), .sl false (j.list.map J.cells)]))
    have g2 := AHeap.get_put_same p (.box 25 [.v (.int .i64 j.kind), .v (.int .i64 j.int), .s j.text, .sl false (j.keys.map strCells), .sl false (j.list.map J.cells)]) H
    have hpq := get_ne_fresh hq hp
    have hE1 : Ext (H.put q (cbox m b0)) ((H.put p (.box 25 [.v (.int .i64 j.kind), .v (.int .i64 j.int), .s j.text, .sl false (j.keys.map strCells), .sl false (j.list.map J.cells)])).put q (cbox m b0)) := ext_put2 hq hp
    have g3 : ((H.put p (.box 25 [.v (.int .i64 j.kind), .v (.int .i64 j.int), .s j.text, .sl false (j.keys.map strCells), .sl false (j.list.map J.cells)])).put q (cbox m b0)).get p = _ := get_other g2 hpq.symm
    have g4 := AHeap.get_put_same q (cbox m b0) (H.put p (.box 25 [.v (.int .i64 j.kind), .v (.int .i64 j.int), .s j.text, .sl false (j.keys.map strCells), .sl false (j.list.map J.cells)]))
    generalize H.put p (.box 25 [.v (.int .i64 j.kind), .v (.int .i64 j.int), .s j.text, .sl false (j.keys.map strCells), .sl false (j.list.map J.cells)]) = M0 at g1 g2 g3 g4 hE1 ⊢
    (apply AWp_skip; simp only [AThen, ABlock]; refine hK _ _ ?_; clear hK K; refine AWp_seq_k (fun K hK => ?_); apply s_region; (iterate 6 (apply s_q; decide; rfl; (simp only [go_sem, g1, g2]; rfl))); apply s_spec; decide; rfl; rfl; (simp only [go_sem, g1, g2]; rfl); (simp only [go_sem, g1, g2]; rfl); (simp only [go_sem, g1, g2]; rfl); (simp only [go_sem, g1, g2]; rfl); trivial; (iterate 2 (apply s_spec; decide; rfl; rfl; (simp only [go_sem, g1, g2]; rfl); (simp only [go_sem, g1, g2]; rfl); (simp only [go_sem, g1, g2]; rfl); (simp only [go_sem, g1, g2]; rfl); simp [condsOk])); apply s_pick; decide; (simp only [go_sem, g1, g2]; rfl); (simp only [go_sem, g1, g2]; rfl); (simp only [go_sem, g1, g2]; rfl); (simp only [go_sem, g1, g2]; rfl); (simp only [go_sem, g1, g2]; rfl); (simp only [go_sem, g1, g2]; rfl); trivial; trivial; simp [condsOk]; (iterate 2 (apply s_q; decide; rfl; (simp only [go_sem, g1, g2]; rfl))); apply s_store; (simp only [go_sem, g1, g2]; rfl); (simp only [go_sem, g1, g2]; rfl); (simp only [go_sem, g1, g2]; rfl); apply s_nil; simp only [AThen, ABlock]; refine hK _ _ ?_; clear hK K; refine AWp_seq_k (fun K hK => ?_); apply s_region; apply s_q; decide; rfl; (simp only [go_sem, g1, g2]; rfl); apply s_nil; simp only [AThen, ABlock]; refine hK _ _ ?_; clear hK K; (iterate 2 (refine AWp_seq_k (fun K hK => ?_))); apply s_region; apply s_q; decide; rfl; (simp only [go_sem, g1, g2]; rfl))
    rw [← hb0]
    generalize M0.put q (cbox m b0) = M1 at g3 g4 hE1 ⊢
    clear g1 g2
    ((iterate 3 (apply s_q; decide; rfl; (simp only [go_sem, g3]; rfl))); apply s_nil; simp only [AThen, ABlock]; refine hK _ _ ?_; clear hK K; apply AWp_block)
    refine AWp_loop_s (σ := Nat × AV × AHeap) [0, 2, 7, 9, 38, 39, 40] (fun s => [ptrTo q, .fn (.func g) [] [], ptrTo p, s.2.1, .sl false (j.keys.map strCells), .v (.int .i64 (j.keys.length : Nat)), .v (.int .i64 s.1)]) (fun s => s.2.2) (fun s => j.keys.length - s.1)
      (fun s => s.1 ≤ j.keys.length ∧ s.2.2.get q = some (cbox m (namesB pr b0 ((j.keys.zip j.list).take s.1))) ∧ s.2.2.get p = some (.box 25 [.v (.int .i64 j.kind), .v (.int .i64 j.int), .s j.text, .sl false (j.keys.map strCells), .sl false (j.list.map J.cells)]) ∧ Ext (H.put q (cbox m (namesB pr b0 ((j.keys.zip j.list).take s.1)))) s.2.2 ∧
        RowAt 58 2 (H.put q (cbox m (namesB pr b0 ((j.keys.zip j.list).take s.1)))) s.2.2 ((namesL ((j.keys.zip j.list).take s.1)).map nmCells) s.2.1)
      (0, .sl true [], M1) ⟨Nat.zero_le _, g4, g3, hE1, RowAt.nil _ _ _ _⟩ (by simp only [getAll, List.map_cons, List.map_nil, AFr.get, reduceIte, Nat.reduceEqDiff, List.length_map]; rfl) rfl (fun s hs => ?_)
    obtain ⟨n, a, L⟩ := s
    obtain ⟨hn, hqL, hpL, hE, hR⟩ := hs
    simp only [List.zip_cons_cons, List.zip_nil_right] at hn hqL hpL hE hR ⊢
    clear g3 g4 hE1
    (refine AWp_seq_k (fun K hK => ?_); apply s_region; apply s_q; decide; rfl; (simp only [go_sem]; rfl); apply s_nil; simp only [AThen, ABlock]; refine hK _ _ ?_; clear hK K; refine AWp_seq_k (fun K hK => ?_))
    refine cond_split (by simp only [go_sem]; try rfl) (fun hd => ?_) (fun hd => ?_)
    · have hlt : n < j.keys.length := by simpa using hd
      obtain ⟨ky, hky⟩ := gete hlt
      have hgk := jstr_at hky
      obtain ⟨x, hx⟩ := gete (l := j.list) (i := n) (by omega)
      have hgx := jget_at hx
      have hz : (j.keys.zip j.list)[n]? = some (ky, x) := by rw [List.getElem?_zip_eq_some]; exact ⟨hky, hx⟩
      have ht : (j.keys.zip j.list).take (n + 1) = (j.keys.zip j.list).take n ++ [(ky, x)] := take_succ hz
      obtain ⟨l, hl⟩ : ∃ l, l = (j.keys.zip j.list).take n := ⟨_, rfl⟩
      rw [← hl] at hqL hE hR ht
      obtain ⟨bb, hbb⟩ : ∃ bb, bb = namesB pr b0 l := ⟨_, rfl⟩
      rw [← hbb] at hqL hE hR
      have hll : l.length ≤ 1000000000 := by rw [hl, List.length_take, List.length_zip]; omega
      have hfk := f3 ky (List.mem_of_getElem? hky)
      have e1 : namesL (l ++ [(ky, x)]) = namesL l ++ [(ky, x.int)] := by rw [namesL, List.map_append]; rfl
      have e2 : namesB pr b0 (l ++ [(ky, x)]) = if (if bb = true then true else !levelB x) = true then true else !pr ky := by rw [namesB, List.foldl_append, hbb, namesB]; rfl
      (apply AWp_skip; simp only [AThen, ABlock]; refine hK _ _ ?_; clear hK K; refine AWp_seq_k (fun K hK => ?_); apply AWp_block; refine AWp_seq_k (fun K hK => ?_); apply s_region; (iterate 5 (apply s_q; decide; rfl; (simp only [go_sem, hqL, hpL, hgk, hgx]; rfl))); apply s_nil; simp only [AThen, ABlock]; refine hK _ _ ?_; clear hK K; refine AWp_seq_k (fun K hK => ?_); apply s_region; (iterate 5 (apply s_q; decide; rfl; (simp only [go_sem, hqL, hpL, hgk, hgx]; rfl))); apply s_call; decide; (simp only [go_sem, hqL, hpL, hgk, hgx]; rfl); (simp only [go_sem, hqL, hpL, hgk, hgx]; rfl); refine ACall.args_eq (bs := [.agg x.cells]) ?_ ?_; (focus (rw [J.cells_eq x]; done)); apply level_c x; (iterate 5 (apply s_q; decide; rfl; (simp only [go_sem, hqL, hpL, hgk, hgx]; rfl))); apply s_nil; simp only [AThen, ABlock]; refine hK _ _ ?_; clear hK K; refine AWp_seq_k (fun K hK => ?_); apply s_region; (iterate 6 (apply s_q; decide; rfl; (simp only [go_sem, hqL, hpL, hgk, hgx]; rfl))); apply s_spec; decide; rfl; rfl; (simp only [go_sem, hqL, hpL, hgk, hgx]; rfl); (simp only [go_sem, hqL, hpL, hgk, hgx]; rfl); (simp only [go_sem, hqL, hpL, hgk, hgx]; rfl); (simp only [go_sem, hqL, hpL, hgk, hgx]; rfl); trivial; apply s_spec; decide; rfl; rfl; (simp only [go_sem, hqL, hpL, hgk, hgx]; rfl); (simp only [go_sem, hqL, hpL, hgk, hgx]; rfl); (simp only [go_sem, hqL, hpL, hgk, hgx]; rfl); (simp only [go_sem, hqL, hpL, hgk, hgx]; rfl); simp [condsOk]; apply s_pick; decide; (simp only [go_sem, hqL, hpL, hgk, hgx]; rfl); (simp only [go_sem, hqL, hpL, hgk, hgx]; rfl); (simp only [go_sem, hqL, hpL, hgk, hgx]; rfl); (simp only [go_sem, hqL, hpL, hgk, hgx]; rfl); (simp only [go_sem, hqL, hpL, hgk, hgx]; rfl); (simp only [go_sem, hqL, hpL, hgk, hgx]; rfl); trivial; trivial; simp [condsOk]; apply s_q; decide; rfl; (simp only [go_sem, hqL, hpL, hgk, hgx]; rfl); (iterate 2 (apply s_spec; decide; rfl; rfl; (simp only [go_sem, hqL, hpL, hgk, hgx]; rfl); (simp only [go_sem, hqL, hpL, hgk, hgx]; rfl); (simp only [go_sem, hqL, hpL, hgk, hgx]; rfl); (simp only [go_sem, hqL, hpL, hgk, hgx]; rfl); trivial)); apply s_gpure; decide; (simp only [go_sem, hqL, hpL, hgk, hgx]; rfl); (simp only [go_sem, hqL, hpL, hgk, hgx]; rfl); (simp only [go_sem, hqL, hpL, hgk, hgx]; rfl); simp [condsOk]; (simp only [go_sem, hqL, hpL, hgk, hgx]; rfl); (simp only [go_sem, hqL, hpL, hgk, hgx]; rfl); (apply hg ky hfk; exact ⟨rfl, rfl⟩); apply s_spec; decide; rfl; rfl; (simp only [go_sem, hqL, hpL, hgk, hgx]; rfl); (simp only [go_sem, hqL, hpL, hgk, hgx]; rfl); (simp only [go_sem, hqL, hpL, hgk, hgx]; rfl); (simp only [go_sem, hqL, hpL, hgk, hgx]; rfl); simp [condsOk]; apply s_pick; decide; (simp only [go_sem, hqL, hpL, hgk, hgx]; rfl); (simp only [go_sem, hqL, hpL, hgk, hgx]; rfl); (simp only [go_sem, hqL, hpL, hgk, hgx]; rfl); (simp only [go_sem, hqL, hpL, hgk, hgx]; rfl); (simp only [go_sem, hqL, hpL, hgk, hgx]; rfl); (simp only [go_sem, hqL, hpL, hgk, hgx]; rfl); trivial; trivial; simp [condsOk]; (iterate 2 (apply s_q; decide; rfl; (simp only [go_sem, hqL, hpL, hgk, hgx]; rfl))); apply s_store; (simp only [go_sem, hqL, hpL, hgk, hgx]; rfl); (simp only [go_sem, hqL, hpL, hgk, hgx]; rfl); (simp only [go_sem, hqL, hpL, hgk, hgx]; rfl); apply s_nil; simp only [AThen, ABlock]; refine hK _ _ ?_; clear hK K; apply s_region; (iterate 4 (apply s_q; decide; rfl; (simp only [go_sem, hqL, hpL, hgk, hgx]; rfl))); apply s_lit; decide; exact el_27; (simp only [go_sem, hqL, hpL, hgk, hgx]; rfl); (simp only [go_sem, hqL, hpL, hgk, hgx]; rfl); decide)
      rw [← e2]
      obtain ⟨b1, hb1⟩ : ∃ b1, b1 = namesB pr b0 (l ++ [(ky, x)]) := ⟨_, rfl⟩
      rw [← hb1]
      have hR2 := rowAt_rebase (y := cbox m b1) (hR.put (o' := cbox m b1) hqL (fun _ _ _ h => by cases h))
      have hE2 := ext_reput (y := cbox m b1) hE
      have q2 := AHeap.get_put_same q (cbox m b1) L
      have p2 := get_other (x := cbox m b1) hpL hpq.symm
      generalize L.put q (cbox m b1) = L2 at hR2 hE2 q2 p2 ⊢
      have hnl : (namesL l).length = l.length := by rw [namesL, List.length_map]
      (apply s_append; decide; (simp only [go_sem]; rfl); (simp only [go_sem]; rfl); apply AApp_at el_27 hE2 hR2 (l := namesL l) (m := [(ky, x.int)]) rfl rfl tk_27 nm_one (by rw [hnl]; simp; omega) (by rw [hnl]; simp; omega); intro s1 L1 ra rb rc; apply s_q; decide; rfl; (simp only [go_sem]; rfl); apply s_nil; simp only [AThen, ABlock]; refine hK _ _ ?_; clear hK K; apply s_region; (iterate 2 (apply s_q; decide; rfl; (simp only [go_sem]; rfl))); apply s_nil; simp only [AThen, ABlock])
      refine ⟨(n + 1, s1, L1), by simp only; omega, ⟨by simp only; omega, ?_, rc p _ p2 (fun _ _ _ h => by cases h), ?_, ?_⟩, ?_, by trivial⟩
      · simp only [ht, ← hb1]; exact rc q _ q2 (fun _ _ _ h => by cases h)
      · simp only [ht, ← hb1]; exact rb
      · simp only [ht, ← hb1, e1]; exact ra
      · simp only [getAll, List.map_cons, List.map_nil, AFr.get, reduceIte, Nat.reduceEqDiff]
        rw [wrapS hlt (by omega)]; try rfl
    · have hge : j.keys.length ≤ n := by simpa using hd
      have htk : (j.keys.zip j.list).take n = j.keys.zip j.list := List.take_of_length_le (by rw [List.length_zip]; omega)
      rw [htk] at hqL hE hR
      (apply AWp_exit; simp only [AThen, ABlock, reduceIte, Nat.reduceEqDiff]; clear hK K; refine hK _ _ ?_; clear hK K; refine AWp_seq_k (fun K hK => ?_); apply s_region; (iterate 2 (apply s_q; decide; rfl; (simp only [go_sem]; rfl))); apply s_nil; simp only [AThen, ABlock]; refine hK _ _ ?_; clear hK K; apply AWp_ret)
      exact ⟨_, _, snap_at hR hE, h⟩
end Go.Proofs.YtniaafncmnilgaaGreatDoor
