/-
  Power: changes. Contracts.
-/
import Derived.Test.YtniaafncmnilgaaGreatDoorPC
set_option linter.unusedSimpArgs false
set_option linter.unusedVariables false
set_option maxRecDepth 100000
namespace Go.Proofs.YtniaafncmnilgaaGreatDoor
open Go Go.AL
attribute [local irreducible] AOps AWp SOps AE AT ACall AApp

theorem concatF_c (t : Bool) (a b : List Nm) (ha : a.length ≤ 1000000000) (hb : b.length ≤ 1000000000) (H : AHeap) (Kc : AV → AHeap → Prop) (h : Kc (.sl false ((a ++ b).map nmCells)) H) :
    ACall X 69 [.sl t [[.sl false (a.map nmCells)], [.sl false (b.map nmCells)]]] H Kc := by
  refine ACall.gr (e := 58) (sz := 2) h ?_
  exact concat_c t a b ha hb H _ (fun s L hG => ⟨H, Ext.refl _, hG⟩)

/-- does a name's level change? -/
def differs (a b : List Nm) (s : List UInt8) : Bool := if (!decide ((fndL a s).2 = (fndL b s).2)) = true then true else !decide ((fndL a s).1 = (fndL b s).1)
def chCells (a b : List Nm) (s : List UInt8) : List AV := [.s s, .v (.int .i64 (fndL a s).1), .v (.int .i64 (fndL b s).1), .v (.bool (fndL a s).2), .v (.bool (fndL b s).2)]
theorem zc_change : zC X.P 79 = some [.s [], .v (.int .i64 0), .v (.int .i64 0), .v (.bool false), .v (.bool false)] := zc_79

theorem changes_c (a b : List Nm) (H : AHeap) (K : AV → AHeap → Prop) (h : ∀ c d, H.get c = none → (H.put c (.box 27 [.sl false (a.map nmCells)])).get d = none → K (.fn (.func 68) [] [ptrTo c, ptrTo d]) ((H.put c (.box 27 [.sl false (a.map nmCells)])).put d (.box 27 [.sl false (b.map nmCells)]))) :
    ACall X 52 [.sl false (a.map nmCells), .sl false (b.map nmCells)] H K := by
  refine ACall_intro Tryz.func52 rfl (by kernel_rfl) (by rw [Tryz.ntmps52]; simp) ?_; rw [Tryz.ntmps52]; simp only [frame0, Nat.reduceAdd]
  refine AWp_seq_k (fun K hK => ?_); apply s_region
  apply s_box; decide; exact (by simp only [go_sem]; try rfl); exact (by simp only [go_sem]; try rfl); intro c hc
  apply s_box; decide; exact (by simp only [go_sem]; try rfl); exact (by simp only [go_sem]; try rfl); intro d hd
  (apply s_q; decide; rfl; (simp only [go_sem]; rfl); apply s_nil; simp only [AThen, ABlock]; refine hK _ _ ?_; clear hK K; refine AWp_seq_k (fun K hK => ?_); apply s_region; (iterate 2 (apply s_q; decide; rfl; (simp only [go_sem]; rfl))); apply s_nil; simp only [AThen, ABlock]; refine hK _ _ ?_; clear hK K; apply AWp_ret)
  exact h c d hc hd
set_option maxHeartbeats 2000000 in
theorem changesB_c (y c1 c2 : Nat) (u v : List Nm) (ha : u.length ≤ 1000000000) (hv : v.length ≤ 1000000000) (I : Nat → AHeap → Prop) (Kc : AV → AHeap → Prop)
    (hI : ∀ n H, I n H → H.get c1 = some (.box 27 [.sl false (u.map nmCells)]) ∧ H.get c2 = some (.box 27 [.sl false (v.map nmCells)]))
    (hx : ∀ n H p o, I n H → H.get p = none → I n (H.put p o))
    (hy : ∀ (n : Nat) (x : Nm) (H : AHeap), (u ++ v)[n]? = some x → I n H → differs u v x.1 = true → AYield X y [.agg (chCells u v x.1)] H (fun r H' => (r = .v (.bool true) ∧ I (n + 1) H') ∨ (r = .v (.bool false) ∧ Kc (.tup []) H')))
    (hs : ∀ (n : Nat) (x : Nm) (H : AHeap), (u ++ v)[n]? = some x → I n H → differs u v x.1 = false → I (n + 1) H)
    (h0 : ∀ H, I (u ++ v).length H → Kc (.tup []) H) (H : AHeap) (hH : I 0 H) : ACall X 68 [.fn (.yield y) [] [], ptrTo c1, ptrTo c2] H Kc := by
  obtain ⟨e1, e2⟩ := hI _ _ hH
  obtain ⟨l, hl⟩ : ∃ l, l = u ++ v := ⟨_, rfl⟩
  have hll : l.length ≤ 2000000000 := by rw [hl, List.length_append]; omega
  refine ACall_intro Tryz.func68 rfl (by kernel_rfl) (by rw [Tryz.ntmps68]; simp) ?_; rw [Tryz.ntmps68]; simp only [frame0, Nat.reduceAdd]
  (refine AWp_seq_k (fun K hK => ?_); apply s_region; (iterate 2 (apply s_q; decide; rfl; (simp only [go_sem, e1, e2]; rfl))); apply s_lit; decide; exact el_109; (simp only [go_sem, e1, e2]; rfl); (simp only [go_sem, e1, e2]; rfl); decide; apply s_call; decide; (simp only [go_sem, e1, e2]; rfl); (simp only [go_sem, e1, e2]; rfl); apply concatF_c _ u v ha hv; (iterate 2 (apply s_q; decide; rfl; (simp only [go_sem, e1, e2]; rfl))); apply s_nil; simp only [AThen, ABlock]; refine hK _ _ ?_; clear hK K; apply AWp_block)
  rw [← hl] at hy hs h0 ⊢
  refine AWp_loop_s (σ := Nat × AHeap) [0, 1, 2, 10, 11, 12] (fun s => [.fn (.yield y) [] [], ptrTo c1, ptrTo c2, .sl false (l.map nmCells), .v (.int .i64 (l.length : Nat)), .v (.int .i64 s.1)]) (fun s => s.2) (fun s => l.length - s.1) (fun s => s.1 ≤ l.length ∧ I s.1 s.2) (0, H) ⟨Nat.zero_le _, hH⟩ (by simp only [getAll, List.map_cons, List.map_nil, AFr.get, reduceIte, Nat.reduceEqDiff, List.length_map]; rfl) rfl (fun s hs => ?_)
  obtain ⟨n, L⟩ := s
  rename_i hsk
  obtain ⟨hn, hIL⟩ := hs
  simp only [List.zip_cons_cons, List.zip_nil_right] at hn hIL ⊢
  obtain ⟨e3, e4⟩ := hI _ _ hIL
  (refine AWp_seq_k (fun K hK => ?_); apply s_region; apply s_q; decide; rfl; (simp only [go_sem]; rfl); apply s_nil; simp only [AThen, ABlock]; refine hK _ _ ?_; clear hK K; refine AWp_seq_k (fun K hK => ?_))
  refine cond_split (by simp only [go_sem]; try rfl) (fun hd => ?_) (fun hd => ?_)
  · have hlt : n < l.length := by simpa using hd
    obtain ⟨x, hxx⟩ := gete hlt
    have hgx := nm_at hxx
    (apply AWp_skip; simp only [AThen, ABlock]; refine hK _ _ ?_; clear hK K; refine AWp_seq_k (fun K hK => ?_); apply AWp_block; refine AWp_seq_k (fun K hK => ?_); apply s_region; (iterate 2 (apply s_q; decide; rfl; (simp only [go_sem, hgx]; rfl))); apply s_alloc; decide; exact zc_58; intro b hb; apply s_store; (simp only [go_sem, hgx]; rfl); (simp only [go_sem, hgx]; rfl); (simp only [go_sem, hgx]; rfl); apply s_nil; simp only [AThen, ABlock]; refine hK _ _ ?_; clear hK K; refine AWp_seq_k (fun K hK => ?_); apply s_region; (iterate 3 (apply s_q; decide; rfl; (simp only [go_sem, hgx]; rfl))); apply s_alloc; decide; exact zc_79; intro b hb; apply s_store; (simp only [go_sem, hgx]; rfl); (simp only [go_sem, hgx]; rfl); (simp only [go_sem, hgx]; rfl); apply s_nil; simp only [AThen, ABlock]; refine hK _ _ ?_; clear hK K; refine AWp_seq_k (fun K hK => ?_); apply s_region)
    rename_i p hp
    obtain ⟨q, hqe⟩ : ∃ q, q = b := ⟨_, rfl⟩
    have hq := hb
    rw [← hqe] at hq ⊢
    clear hb hqe b
    have k1 := AHeap.get_put_same p (.box 58 [.s x.1, .v (.int .i64 x.2)]) L
    have k2 := get_fresh e3 hp (x := .box 58 [.s x.1, .v (.int .i64 x.2)])
    have k3 := get_fresh e4 hp (x := .box 58 [.s x.1, .v (.int .i64 x.2)])
    have k4 := hx _ _ _ (.box 58 [.s x.1, .v (.int .i64 x.2)]) hIL hp
    generalize L.put p (.box 58 [.s x.1, .v (.int .i64 x.2)]) = M at k1 k2 k3 k4 hq ⊢
    have m1 : ∀ o, (M.put q o).get p = _ := fun o => get_fresh k1 hq (x := o)
    have m2 : ∀ o, (M.put q o).get c1 = _ := fun o => get_fresh k2 hq (x := o)
    have m3 : ∀ o, (M.put q o).get c2 = _ := fun o => get_fresh k3 hq (x := o)
    have m4 : ∀ o, I n (M.put q o) := fun o => hx _ _ _ o k4 hq
    ((iterate 3 (apply s_q; decide; rfl; (simp only [go_sem, m1, m2, m3, zc_change, AHeap.put_put]; rfl))); apply s_call; decide; (simp only [go_sem, m1, m2, m3, zc_change, AHeap.put_put]; rfl); (simp only [go_sem, m1, m2, m3, zc_change, AHeap.put_put]; rfl); apply find_c false u (by omega) x.1; (iterate 4 (apply s_q; decide; rfl; (simp only [go_sem, m1, m2, m3, zc_change, AHeap.put_put]; rfl))); apply s_store; (simp only [go_sem, m1, m2, m3, zc_change, AHeap.put_put]; rfl); (simp only [go_sem, m1, m2, m3, zc_change, AHeap.put_put]; rfl); (simp only [go_sem, m1, m2, m3, zc_change, AHeap.put_put]; rfl); apply s_q; decide; rfl; (simp only [go_sem, m1, m2, m3, zc_change, AHeap.put_put]; rfl); apply s_store; (simp only [go_sem, m1, m2, m3, zc_change, AHeap.put_put]; rfl); (simp only [go_sem, m1, m2, m3, zc_change, AHeap.put_put]; rfl); (simp only [go_sem, m1, m2, m3, zc_change, AHeap.put_put]; rfl); apply s_nil; simp only [AThen, ABlock]; refine hK _ _ ?_; clear hK K; refine AWp_seq_k (fun K hK => ?_); apply s_region; (iterate 3 (apply s_q; decide; rfl; (simp only [go_sem, m1, m2, m3, zc_change, AHeap.put_put]; rfl))); apply s_call; decide; (simp only [go_sem, m1, m2, m3, zc_change, AHeap.put_put]; rfl); (simp only [go_sem, m1, m2, m3, zc_change, AHeap.put_put]; rfl); apply find_c false v (by omega) x.1; (iterate 4 (apply s_q; decide; rfl; (simp only [go_sem, m1, m2, m3, zc_change, AHeap.put_put]; rfl))); apply s_store; (simp only [go_sem, m1, m2, m3, zc_change, AHeap.put_put]; rfl); (simp only [go_sem, m1, m2, m3, zc_change, AHeap.put_put]; rfl); (simp only [go_sem, m1, m2, m3, zc_change, AHeap.put_put]; rfl); apply s_q; decide; rfl; (simp only [go_sem, m1, m2, m3, zc_change, AHeap.put_put]; rfl); apply s_store; (simp only [go_sem, m1, m2, m3, zc_change, AHeap.put_put]; rfl); (simp only [go_sem, m1, m2, m3, zc_change, AHeap.put_put]; rfl); (simp only [go_sem, m1, m2, m3, zc_change, AHeap.put_put]; rfl); apply s_nil; simp only [AThen, ABlock]; refine hK _ _ ?_; clear hK K; refine AWp_seq_k (fun K hK => ?_); apply s_region; (iterate 6 (apply s_q; decide; rfl; (simp only [go_sem, m1, m2, m3, zc_change, AHeap.put_put]; rfl))); apply s_spec; decide; rfl; rfl; (simp only [go_sem, m1, m2, m3, zc_change, AHeap.put_put]; rfl); (simp only [go_sem, m1, m2, m3, zc_change, AHeap.put_put]; rfl); (simp only [go_sem, m1, m2, m3, zc_change, AHeap.put_put]; rfl); (simp only [go_sem, m1, m2, m3, zc_change, AHeap.put_put]; rfl); trivial; apply s_spec; decide; rfl; rfl; (simp only [go_sem, m1, m2, m3, zc_change, AHeap.put_put]; rfl); (simp only [go_sem, m1, m2, m3, zc_change, AHeap.put_put]; rfl); (simp only [go_sem, m1, m2, m3, zc_change, AHeap.put_put]; rfl); (simp only [go_sem, m1, m2, m3, zc_change, AHeap.put_put]; rfl); simp [condsOk]; apply s_spec; decide; rfl; rfl; (simp only [go_sem, m1, m2, m3, zc_change, AHeap.put_put]; rfl); (simp only [go_sem, m1, m2, m3, zc_change, AHeap.put_put]; rfl); (simp only [go_sem, m1, m2, m3, zc_change, AHeap.put_put]; rfl); (simp only [go_sem, m1, m2, m3, zc_change, AHeap.put_put]; rfl); trivial; (iterate 2 (apply s_spec; decide; rfl; rfl; (simp only [go_sem, m1, m2, m3, zc_change, AHeap.put_put]; rfl); (simp only [go_sem, m1, m2, m3, zc_change, AHeap.put_put]; rfl); (simp only [go_sem, m1, m2, m3, zc_change, AHeap.put_put]; rfl); (simp only [go_sem, m1, m2, m3, zc_change, AHeap.put_put]; rfl); simp [condsOk])); apply s_pick; decide; (simp only [go_sem, m1, m2, m3, zc_change, AHeap.put_put]; rfl); (simp only [go_sem, m1, m2, m3, zc_change, AHeap.put_put]; rfl); (simp only [go_sem, m1, m2, m3, zc_change, AHeap.put_put]; rfl); (simp only [go_sem, m1, m2, m3, zc_change, AHeap.put_put]; rfl); (simp only [go_sem, m1, m2, m3, zc_change, AHeap.put_put]; rfl); (simp only [go_sem, m1, m2, m3, zc_change, AHeap.put_put]; rfl); trivial; trivial; simp [condsOk]; apply s_q; decide; rfl; (simp only [go_sem, m1, m2, m3, zc_change, AHeap.put_put]; rfl); (iterate 2 (apply s_spec; decide; rfl; rfl; (simp only [go_sem, m1, m2, m3, zc_change, AHeap.put_put]; rfl); (simp only [go_sem, m1, m2, m3, zc_change, AHeap.put_put]; rfl); (simp only [go_sem, m1, m2, m3, zc_change, AHeap.put_put]; rfl); (simp only [go_sem, m1, m2, m3, zc_change, AHeap.put_put]; rfl); trivial)))
    cases hdf : differs u v x.1 with
    | false =>
      have hdg := hdf
      rw [differs] at hdg
      apply s_gno (.v (.bool false)); decide; rfl; (simp only [go_sem, hdg]; rfl); simp only [go_sem, hdg]; (simp only [go_sem, hdg]; rfl); (simp only [go_sem, hdg]; rfl); trivial
      (apply s_spec; decide; rfl; rfl; (simp only [go_sem, hdg]; rfl); (simp only [go_sem, hdg]; rfl); (simp only [go_sem, hdg]; rfl); (simp only [go_sem, hdg]; rfl); trivial; apply s_pick; decide; (simp only [go_sem, hdg]; rfl); (simp only [go_sem, hdg]; rfl); (simp only [go_sem, hdg]; rfl); (simp only [go_sem, hdg]; rfl); (simp only [go_sem, hdg]; rfl); (simp only [go_sem, hdg]; rfl); trivial; trivial; trivial; apply s_nil; simp only [AThen, ABlock]; refine hK _ _ ?_; clear hK K)
      refine cond_split (by simp only [go_sem]; try rfl) (fun hz => ?_) (fun hz => ?_)
      · cases hz
      (apply AWp_skip; simp only [AThen, ABlock]; refine hK _ _ ?_; clear hK K; apply s_region; (iterate 2 (apply s_q; decide; rfl; (simp only [go_sem]; rfl))); apply s_nil; simp only [AThen, ABlock])
      refine ⟨(n + 1, _), by simp only; omega, ⟨by simp only; omega, hsk n x _ hxx (m4 _) hdf⟩, ?_, rfl⟩
      simp only [getAll, List.map_cons, List.map_nil, AFr.get, reduceIte, Nat.reduceEqDiff]
      rw [wrapS hlt (by omega)]; try rfl
    | true =>
      have hdg := hdf
      rw [differs] at hdg
      apply s_yyield; decide; (simp only [go_sem, hdg]; rfl); simp only [go_sem, hdg]; (simp only [go_sem, hdg]; rfl); trivial; (simp only [go_sem, hdg]; rfl); (simp only [go_sem, hdg]; rfl); (simp only [go_sem, hdg]; rfl)
      refine AYield.mono (hy n x _ hxx (m4 _) hdf) ?_
      rintro r L' (⟨rfl, hI'⟩ | ⟨rfl, hK'⟩)
      · (apply s_spec; decide; rfl; rfl; (simp only [go_sem, hdg]; rfl); (simp only [go_sem, hdg]; rfl); (simp only [go_sem, hdg]; rfl); (simp only [go_sem, hdg]; rfl); trivial; apply s_pick; decide; (simp only [go_sem, hdg]; rfl); (simp only [go_sem, hdg]; rfl); (simp only [go_sem, hdg]; rfl); (simp only [go_sem, hdg]; rfl); (simp only [go_sem, hdg]; rfl); (simp only [go_sem, hdg]; rfl); trivial; trivial; trivial; apply s_nil; simp only [AThen, ABlock]; refine hK _ _ ?_; clear hK K)
        refine cond_split (by simp only [go_sem]; try rfl) (fun hz => ?_) (fun hz => ?_)
        · cases hz
        (apply AWp_skip; simp only [AThen, ABlock]; refine hK _ _ ?_; clear hK K; apply s_region; (iterate 2 (apply s_q; decide; rfl; (simp only [go_sem]; rfl))); apply s_nil; simp only [AThen, ABlock])
        refine ⟨(n + 1, L'), by simp only; omega, ⟨by simp only; omega, hI'⟩, ?_, rfl⟩
        simp only [getAll, List.map_cons, List.map_nil, AFr.get, reduceIte, Nat.reduceEqDiff]
        rw [wrapS hlt (by omega)]; try rfl
      · (apply s_spec; decide; rfl; rfl; (simp only [go_sem, hdg]; rfl); (simp only [go_sem, hdg]; rfl); (simp only [go_sem, hdg]; rfl); (simp only [go_sem, hdg]; rfl); trivial; apply s_pick; decide; (simp only [go_sem, hdg]; rfl); (simp only [go_sem, hdg]; rfl); (simp only [go_sem, hdg]; rfl); (simp only [go_sem, hdg]; rfl); (simp only [go_sem, hdg]; rfl); (simp only [go_sem, hdg]; rfl); trivial; trivial; trivial; apply s_nil; simp only [AThen, ABlock]; refine hK _ _ ?_; clear hK K)
        refine cond_split (by simp only [go_sem]; try rfl) (fun hz => ?_) (fun hz => ?_)
        rotate_left
        · cases hz
        (apply AWp_ret; simp only [AThen, ABlock]; apply end_ret; rfl)
        exact hK'
  · have hge : l.length ≤ n := by simpa using hd
    have : n = l.length := by omega
    subst this
    (apply AWp_exit; simp only [AThen, ABlock, reduceIte, Nat.reduceEqDiff])
    apply end_normal; rfl
    exact h0 _ hIL
end Go.Proofs.YtniaafncmnilgaaGreatDoor
