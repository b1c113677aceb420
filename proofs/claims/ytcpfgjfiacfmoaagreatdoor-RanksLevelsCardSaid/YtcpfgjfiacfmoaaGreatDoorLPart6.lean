/-
  Searches in rows, rows cut down; the places that are there. Contracts.
-/
import Derived.Test.YtcpfgjfiacfmoaaGreatDoorLPart5
import Derived.Test.YtcpfgjfiacfmoaaGreatDoorLPart4
import Derived.Test.YtcpfgjfiacfmoaaGreatDoorLAL4
set_option linter.unusedSimpArgs false
set_option linter.unusedVariables false
set_option maxRecDepth 100000
namespace Go.Proofs.YtcpfgjfiacfmoaaGreatDoor
open Go Go.AL
attribute [local irreducible] AOps AWp SOps AE AT ACall AApp

theorem index_c (t : Bool) (l : List Int) (n : Int) (hl : l.length ≤ 4611686018427387904) (H : AHeap) (K : AV → AHeap → Prop) (h : K (.v (.int .i64 (atI n l))) H) : ACall X 58 [.sl t (l.map intCells), .v (.int .i64 n)] H K := by
  refine ACall_intro Tryz.func58 rfl (by kernel_rfl) (by rw [Tryz.ntmps58]; simp) ?_; rw [Tryz.ntmps58]; simp only [frame0, Nat.reduceAdd]
  (apply sR; intro K hK; refine qr ?_; refine s_nil (hK _ _ ?_); clear hK K; apply sK; intro K hK; apply sR; intro K hK; (iterate 3 (refine qr ?_)); refine s_nil (hK _ _ ?_); clear hK K; apply AWp_block)
  refine AWp_loop_s (σ := Nat) [0, 1, 7, 8] (fun i => [.sl t (l.map intCells), .v (.int .i64 n), .v (.int .i64 (l.length : Nat)), .v (.int .i64 i)]) (fun _ => H) (fun i => l.length - i) (fun i => i ≤ l.length ∧ ∀ y ∈ l.take i, y ≠ n) 0 ⟨Nat.zero_le _, by simp⟩ rfl rfl (fun i hi => ?_)
  simp only [List.zip_cons_cons, List.zip_nil_right]
  (apply sR; intro K hK; refine qr ?_; refine s_nil (hK _ _ ?_); clear hK K; apply sK; intro K hK)
  refine cs (fun hd => ?_) (fun hd => ?_)
  · have hlt : i < l.length := by simpa using hd
    obtain ⟨a, ha⟩ := gete hlt
    have hg1 := int_at ha
    (refine AWp_skip (hK _ _ ?_); clear hK K; apply sK; intro K hK; apply AWp_block; apply sR; intro K hK; (iterate 2 (apply s_q; decide; rfl; (simp only [go_sem, hg1]; rfl))); refine s_nil (hK _ _ ?_); clear hK K; apply sR; intro K hK; (iterate 6 (apply s_q; decide; rfl; (simp only [go_sem, hg1]; rfl))); refine s_nil (hK _ _ ?_); clear hK K)
    refine cs (fun he => ?_) (fun he => ?_)
    · have he : n = a := by simpa using he
      (apply sR; intro K hK; (iterate 2 (refine qr ?_)); refine s_nil (hK _ _ ?_); clear hK K; apply AWp_ret; simp only [AThen, ABlock]; apply end_ret; rfl; simp only [AFr.get, reduceIte, Nat.reduceEqDiff])
      exact finI h (atI_take ha hi.2 he.symm).symm
    · have he : ¬ n = a := by simpa using he
      (refine AWp_skip (hK _ _ ?_); clear hK K; apply s_region; (iterate 2 (refine qr ?_)); apply s_nil; simp only [AThen, ABlock])
      refine ⟨i + 1, by omega, ⟨by omega, fun y hy => ?_⟩, ?_, by trivial⟩
      · rcases take_mem_succ ha hy with h1 | rfl
        · exact hi.2 y h1
        · exact Ne.symm he
      · simp only [getAll, List.map, AFr.get, reduceIte, Nat.reduceEqDiff]
        rw [wrapS hlt (by omega)]; try rfl
  · have hge : l.length ≤ i := by simpa using hd
    (apply AWp_exit; simp only [AThen, ABlock, reduceIte, Nat.reduceEqDiff]; clear hK K; refine hK _ _ ?_; clear hK K; apply sR; intro K hK; refine qr ?_; refine s_nil (hK _ _ ?_); clear hK K; apply AWp_ret)
    exact finI h (atI_none (fun y hy => hi.2 y (by rw [List.take_of_length_le hge]; exact hy))).symm
theorem lessi_c (a b : Int) (H : AHeap) (K : AV → AHeap → Prop) (h : K (.v (.bool (decide (a < b)))) H) : ACall X 84 [.v (.int .i64 a), .v (.int .i64 b)] H K := by
  refine ACall_intro Tryz.func84 rfl (by kernel_rfl) (by rw [Tryz.ntmps84]; simp) ?_; rw [Tryz.ntmps84]; simp only [frame0, Nat.reduceAdd]
  (apply sR; intro K hK; refine qr ?_; refine s_nil (hK _ _ ?_); clear hK K; apply sR; intro K hK; refine qr ?_; apply s_call; decide; (iterate 2 (simp only [go_sem]; rfl)); apply isNaN_c; refine qr ?_; refine sp ?_; apply s_gpure; decide; (iterate 3 (simp only [go_sem]; rfl)); trivial; (iterate 2 (simp only [go_sem]; rfl)); (apply isNaN_c; exact ⟨rfl, rfl⟩); refine sp ?_; apply s_pick; decide; (iterate 6 (simp only [go_sem]; rfl)); trivial; trivial; trivial; refine qr ?_; (iterate 3 (refine sp ?_)); apply s_pick; decide; (iterate 6 (simp only [go_sem]; rfl)); trivial; trivial; trivial; refine qr ?_; refine s_nil (hK _ _ ?_); clear hK K; apply AWp_ret)
  exact h
theorem isNaNl_c (n : Int) (H : AHeap) (K : AV → AHeap → Prop) (h : K (.v (.bool false)) H) : ACall X 85 [.v (.int .i64 n)] H K := by
  refine ACall_intro Tryz.func85 rfl (by kernel_rfl) (by rw [Tryz.ntmps85]; simp) ?_; rw [Tryz.ntmps85]; simp only [frame0, Nat.reduceAdd]
  (apply sR; intro K hK; refine qr ?_; refine s_nil (hK _ _ ?_); clear hK K; apply sR; intro K hK; (iterate 4 (refine qr ?_)); refine s_nil (hK _ _ ?_); clear hK K; apply AWp_ret)
  exact finB h (by simp)
set_option maxHeartbeats 2000000 in
theorem bsearch_c (t : Bool) (l : List Int) (k : Int) (m : Nat) (hl : l.length ≤ 1000000) (h1 : ∀ j x, j < m → l[j]? = some x → x < k) (h2 : l[m]? = some k) (h3 : ∀ j x, m ≤ j → l[j]? = some x → k ≤ x) (H : AHeap) (K : AV → AHeap → Prop) (h : ∀ f, K (.tup [.v (.int .i64 m), .v (.bool f)]) H) :
    ACall X 50 [.sl t (l.map intCells), .v (.int .i64 k)] H K := by
  have hml : m < l.length := (List.getElem?_eq_some_iff.1 h2).1
  refine ACall_intro Tryz.func50 rfl (by kernel_rfl) (by rw [Tryz.ntmps50]; simp) ?_; rw [Tryz.ntmps50]; simp only [frame0, Nat.reduceAdd]
  (apply sR; intro K hK; (iterate 2 (refine qr ?_)); refine s_nil (hK _ _ ?_); clear hK K; apply sR; intro K hK; (iterate 3 (refine qr ?_)); refine s_nil (hK _ _ ?_); clear hK K; apply sR; intro K hK; (iterate 3 (refine qr ?_)); refine s_nil (hK _ _ ?_); clear hK K; apply sK; intro K hK; apply AWp_block)
  refine AWp_loop_s (σ := Nat × Nat) [0, 1, 6, 7, 8] (fun s => [.sl t (l.map intCells), .v (.int .i64 k), .v (.int .i64 (l.length : Nat)), .v (.int .i64 s.1), .v (.int .i64 s.2)]) (fun _ => H) (fun s => s.2 - s.1)
    (fun s => s.1 ≤ m ∧ m ≤ s.2 ∧ s.2 ≤ l.length) (0, l.length) ⟨Nat.zero_le _, Nat.le_of_lt hml, Nat.le_refl _⟩ rfl rfl (fun s hs => ?_)
  obtain ⟨i, j⟩ := s
  obtain ⟨hi, hj, hjl⟩ := hs
  simp only [List.zip_cons_cons, List.zip_nil_right] at hi hj hjl ⊢
  (apply sK; intro K hK; apply sR; intro K hK; (iterate 3 (refine qr ?_)); refine s_nil (hK _ _ ?_); clear hK K)
  refine cs (fun hd => ?_) (fun hd => ?_)
  · have hij : i < j := by simpa using hd
    obtain ⟨x, hx⟩ := gete (l := l) (i := (i + j) / 2) (by omega)
    have hgx := int_at hx
    have e1 : IntKind.i64.wrap ((i : Int) + (j : Int)) = ((i + j : Nat) : Int) := by rw [wrap64 (by omega)]; omega
    have e2 : IntKind.u64.wrap ((i + j : Nat) : Int) = ((i + j : Nat) : Int) := by simp [IntKind.wrap, IntKind.signed, IntKind.bits]; omega
    have e3 : Int.fdiv ((i + j : Nat) : Int) (2 ^ min 1 64) = (((i + j) / 2 : Nat) : Int) := by
      rw [show (2 : Int) ^ min 1 64 = ((2 : Nat) : Int) from rfl, ← Int.ofNat_fdiv]
    have e4 : IntKind.i64.wrap (((i + j) / 2 : Nat) : Int) = (((i + j) / 2 : Nat) : Int) := wrap64 (by omega)
    (refine AWp_skip (hK _ _ ?_); clear hK K; apply AWp_block; apply sR; intro K hK; (iterate 7 (apply s_q; decide; rfl; (simp only [go_sem, e1, e2, e3, e4, hgx]; rfl))); refine s_nil (hK _ _ ?_); clear hK K; apply sR; intro K hK; (iterate 5 (apply s_q; decide; rfl; (simp only [go_sem, e1, e2, e3, e4, hgx]; rfl))); apply s_call; decide; (iterate 2 (simp only [go_sem, e1, e2, e3, e4, hgx]; rfl)); apply lessi_c; refine s_nil (hK _ _ ?_); clear hK K)
    refine cs (fun he => ?_) (fun he => ?_)
    · have he : x < k := by simpa using he
      have hlt : (i + j) / 2 < m := by
        rcases Nat.lt_or_ge ((i + j) / 2) m with h4 | h4
        · exact h4
        · have := h3 _ _ h4 hx; omega
      have e5 : IntKind.i64.wrap ((((i + j) / 2 : Nat) : Int) + 1) = (((i + j) / 2 + 1 : Nat) : Int) := by rw [wrap64 (by omega)]; omega
      (apply s_region; (iterate 3 (refine qr ?_)); apply s_nil; simp only [AThen, ABlock])
      refine ⟨((i + j) / 2 + 1, j), by simp only; omega, ⟨by simp only; omega, hj, hjl⟩, ?_, by trivial⟩
      simp only [getAll, List.map, AFr.get, reduceIte, Nat.reduceEqDiff]
      rw [e5]
    · have he : ¬ x < k := by simpa using he
      have hge : m ≤ (i + j) / 2 := by
        rcases Nat.lt_or_ge ((i + j) / 2) m with h4 | h4
        · exact absurd (h1 _ _ h4 hx) he
        · exact h4
      (apply s_region; (iterate 2 (refine qr ?_)); apply s_nil; simp only [AThen, ABlock])
      refine ⟨(i, (i + j) / 2), by simp only; omega, ⟨hi, hge, by simp only; omega⟩, ?_, by trivial⟩
      simp only [getAll, List.map, AFr.get, reduceIte, Nat.reduceEqDiff]
  · have hge : ¬ i < j := by simpa using hd
    have him : i = m := by omega
    subst him
    have hgx := int_at h2
    (apply AWp_exit; simp only [AThen, ABlock, reduceIte, Nat.reduceEqDiff]; clear hK K; refine hK _ _ ?_; clear hK K; apply sR; intro K hK; (iterate 5 (apply s_q; decide; rfl; (simp only [go_sem, hgx]; rfl))); (iterate 2 (apply s_spec; decide; rfl; rfl; (iterate 4 (simp only [go_sem, hgx]; rfl)); trivial)); apply s_when; decide; (iterate 3 (simp only [go_sem, hgx]; rfl)); simp [condsOk]; (intro hg; (focus (simp only [go_sem, hgx]; (try rfl); done))); apply s_spec; decide; rfl; rfl; (iterate 4 (simp only [go_sem, hgx]; rfl)); simp [condsOk]; apply s_spec; decide; rfl; rfl; (iterate 4 (simp only [go_sem, hgx]; rfl)); trivial; (iterate 2 (apply s_spec; decide; rfl; rfl; (iterate 4 (simp only [go_sem, hgx]; rfl)); simp [condsOk])); (iterate 2 (apply s_spec; decide; rfl; rfl; (iterate 4 (simp only [go_sem, hgx]; rfl)); trivial)); apply s_when; decide; (iterate 3 (simp only [go_sem, hgx]; rfl)); simp [condsOk]; (intro hg; (focus (simp only [go_sem, hgx]; (try rfl); done))); apply s_spec; decide; rfl; rfl; (iterate 4 (simp only [go_sem, hgx]; rfl)); simp [condsOk]; apply s_gpure; decide; (iterate 3 (simp only [go_sem, hgx]; rfl)); simp [condsOk]; (iterate 2 (simp only [go_sem, hgx]; rfl)); (apply isNaNl_c; exact ⟨rfl, rfl⟩); apply s_spec; decide; rfl; rfl; (iterate 4 (simp only [go_sem, hgx]; rfl)); simp [condsOk]; apply s_spec; decide; rfl; rfl; (iterate 4 (simp only [go_sem, hgx]; rfl)); trivial; apply s_gpure; decide; (iterate 3 (simp only [go_sem, hgx]; rfl)); trivial; (iterate 2 (simp only [go_sem, hgx]; rfl)); (apply isNaNl_c; exact ⟨rfl, rfl⟩); apply s_pickg; decide; (iterate 8 (simp only [go_sem, hgx]; rfl)); simp [condsOk]; simp [condsOk]; trivial; apply s_pickg; decide; (iterate 8 (simp only [go_sem, hgx]; rfl)); simp [condsOk]; trivial; simp [condsOk]; apply s_pick; decide; (iterate 6 (simp only [go_sem, hgx]; rfl)); trivial; simp [condsOk]; trivial; (iterate 2 (apply s_q; decide; rfl; (simp only [go_sem, hgx]; rfl))); refine s_nil (hK _ _ ?_); clear hK K; apply AWp_ret)
    exact h _
def setL (n : Nat) (l : List Int) : List Int := ofN ((List.range n).filter fun i => decide ((i : Int) ∈ l))
theorem setL_len (n : Nat) (l : List Int) : (setL n l).length ≤ n := by
  rw [setL, ofN, List.length_map]
  exact Nat.le_trans (List.length_filter_le _ _) (by rw [List.length_range]; omega)
theorem setL_mem {n : Nat} {l : List Int} {k : Int} : k ∈ setL n l ↔ k ∈ l ∧ 0 ≤ k ∧ k < n := by
  rw [setL, ofN, List.mem_map]
  constructor
  · rintro ⟨i, hi, rfl⟩
    rw [List.mem_filter, List.mem_range, decide_eq_true_iff] at hi
    exact ⟨hi.2, by show 0 ≤ ((i : Nat) : Int); omega, by show ((i : Nat) : Int) < n; omega⟩
  · rintro ⟨h1, h2, h3⟩
    refine ⟨k.toNat, ?_, by show ((k.toNat : Nat) : Int) = k; omega⟩
    rw [List.mem_filter, List.mem_range, decide_eq_true_iff, show ((k.toNat : Nat) : Int) = k by omega]
    exact ⟨by omega, h1⟩
theorem setL_lt (n : Nat) (l : List Int) : (setL n l).Pairwise (· < ·) := by
  rw [setL, ofN, List.pairwise_map]
  exact (List.pairwise_lt_range.filter _).imp fun h => by show ((_ : Nat) : Int) < ((_ : Nat) : Int); omega
theorem there_d (p : Pa) (hw : p.Wide) (i : Int) (H : AHeap) (K : AV → AHeap → Prop) (h : K (.v (.bool (inR p.events.length i))) H) : ACall X.dr 37 [.agg p.cells, .v (.int .i64 i)] H K := by
  have w2 := hw.ev
  refine ACall.drop ?_
  rw [Pa.cells]
  refine ACall_intro Tryz.func37 rfl (by kernel_rfl) (by rw [Tryz.ntmps37]; simp) ?_; rw [Tryz.ntmps37]; simp only [frame0, Nat.reduceAdd]
  apply sR; intro K hK
  apply s_box; decide; exact (by simp only [go_sem]; try rfl); exact (by simp only [go_sem]; try rfl); intro q hq
  generalize hgenq : AHeap.put q _ H = M; obtain ⟨g1, hextq⟩ := gen_ex hgenq hq; have hE := hextq; clear hextq hgenq
  (apply s_q; decide; rfl; (simp only [go_sem, g1]; rfl); refine s_nil (hK _ _ ?_); clear hK K; apply sR; intro K hK; (iterate 3 (apply s_q; decide; rfl; (simp only [go_sem, g1]; rfl))); (iterate 2 (apply s_spec; decide; rfl; rfl; (iterate 4 (simp only [go_sem, g1]; rfl)); trivial)); (iterate 3 (apply s_spec; decide; rfl; rfl; (iterate 4 (simp only [go_sem, g1]; rfl)); simp [condsOk])); apply s_pick; decide; (iterate 6 (simp only [go_sem, g1]; rfl)); trivial; simp [condsOk]; trivial; apply s_q; decide; rfl; (simp only [go_sem, g1]; rfl); refine s_nil (hK _ _ ?_); clear hK K; apply AWp_ret)
  refine ⟨H, hE, finB h ?_⟩
  rw [inR]
  by_cases e : 0 ≤ i <;> simp [e]
theorem those1_d (p : Pa) (hw : p.Wide) (i : Int) (q : Nat) (H : AHeap) (hq : H.get q = some (paBox p)) (K : AV → AHeap → Prop) (h : K (.v (.bool (!inR p.events.length i))) H) : ACall X.dr 77 [.v (.int .i64 i), ptrTo q] H K := by
  have hT : ∀ K : AV → AHeap → Prop, K (.v (.bool (inR p.events.length i))) H → ACall X.dr 37 [.agg [.sl false (p.names.map strCells), .sl false (p.events.map Ev.cells), .sl false (p.prev.map rowCells), .sl false (p.auth.map rowCells), .sl false (p.denied.map bolCells)], .v (.int .i64 i)] H K := fun K hK => there_d p hw i H K hK
  have hq : H.get q = some (.box 35 [.sl false (p.names.map strCells), .sl false (p.events.map Ev.cells), .sl false (p.prev.map rowCells), .sl false (p.auth.map rowCells), .sl false (p.denied.map bolCells)]) := hq
  refine ACall_intro Tryz.func77 rfl (by kernel_rfl) (by rw [Tryz.ntmps77]; simp) ?_; rw [Tryz.ntmps77]; simp only [frame0, Nat.reduceAdd]
  (apply sR; intro K hK; apply s_q; decide; rfl; (simp only [go_sem, hq]; rfl); refine s_nil (hK _ _ ?_); clear hK K; apply sR; intro K hK; (iterate 2 (apply s_q; decide; rfl; (simp only [go_sem, hq]; rfl))); apply s_call; decide; (iterate 2 (simp only [go_sem, hq]; rfl)); apply hT; (iterate 2 (apply s_q; decide; rfl; (simp only [go_sem, hq]; rfl))); refine s_nil (hK _ _ ?_); clear hK K; apply AWp_ret)
  exact h
structure Cut (pr : Int → Bool) (l R : List Int) (i j : Nat) : Prop where
  len : R.length = l.length
  le : i ≤ j
  kept : R.take i = (l.take j).filter fun x => !pr x
  rest : ∀ k, j ≤ k → R[k]? = l[k]?
theorem Cut.step_keep {pr : Int → Bool} {l R : List Int} {i j : Nat} {x : Int} (h : Cut pr l R i j) (hx : l[j]? = some x) (hp : pr x = false) : Cut pr l (R.set i x) (i + 1) (j + 1) where
  len := by rw [List.length_set]; exact h.len
  le := by have := h.le; omega
  kept := by
    have hj := (List.getElem?_eq_some_iff.1 hx).1
    have hi : i < R.length := by have := h.len; have := h.le; omega
    rw [take_succ hx, List.filter_append, ← h.kept]
    have e : (R.set i x)[i]? = some x := by rw [List.getElem?_set_self hi]
    rw [take_succ e, List.take_set_of_le (Nat.le_refl _)]
    simp [hp]
  rest := fun k hk => by
    rw [List.getElem?_set_ne (by have := h.le; omega)]
    exact h.rest k (by omega)
theorem Cut.step_drop {pr : Int → Bool} {l R : List Int} {i j : Nat} {x : Int} (h : Cut pr l R i j) (hx : l[j]? = some x) (hp : pr x = true) : Cut pr l R i (j + 1) where
  len := h.len
  le := by have := h.le; omega
  kept := by rw [take_succ hx, List.filter_append, ← h.kept]; simp [hp]
  rest := fun k hk => h.rest k (by omega)
theorem idx_split (pr : Int → Bool) (l : List Int) : (idxI pr l = -1 ∧ l.filter (fun x => !pr x) = l) ∨ ∃ (i : Nat) (x : Int), idxI pr l = i ∧ l[i]? = some x ∧ pr x = true ∧ (l.take i).filter (fun x => !pr x) = l.take i := by
  cases h : l.findIdx? pr with
  | none =>
    left
    rw [List.findIdx?_eq_none_iff] at h
    exact ⟨idx_none h, List.filter_eq_self.2 (fun x hx => by rw [h x hx]; rfl)⟩
  | some i =>
    right
    rw [List.findIdx?_eq_some_iff_getElem] at h
    obtain ⟨hi, h1, h2⟩ := h
    have hno : ∀ y ∈ l.take i, pr y = false := fun y hy => by
      obtain ⟨j, hj, rfl⟩ := List.mem_take_iff_getElem.1 hy
      simpa using h2 j (by omega)
    exact ⟨i, l[i], idx_take (List.getElem?_eq_getElem hi) hno h1, List.getElem?_eq_getElem hi, h1, List.filter_eq_self.2 (fun x hx => by rw [hno x hx]; rfl)⟩
set_option maxHeartbeats 4000000 in
theorem deleteFunc_c (g : FuncId) (q : Nat) (o : AObj) (ho : ∀ sz sn es, o ≠ .row 3 sz sn es) (pr : Int → Bool) (l : List Int) (hl : l.length ≤ 1000000) (H0 L : AHeap) (hE : Ext H0 L) (a : AV) (hR : RowAt 3 1 H0 L (l.map intCells) a) (hq : L.get q = some o)
    (hg : ∀ (x : Int) (L' : AHeap), L'.get q = some o → ∀ K : AV → AHeap → Prop, K (.v (.bool (pr x))) L' → ACall X.dr g ([.v (.int .i64 x)] ++ [ptrTo q]) L' K) (Kc : AV → AHeap → Prop)
    (h : ∀ a' L', RowAt 3 1 H0 L' ((l.filter fun x => !pr x).map intCells) a' → Ext H0 L' → Keeps 3 L L' → Kc a' L') : ACall X 75 [a, .fn (.func g) [] [ptrTo q]] L Kc := by
  have hArr : Arr L l a := by
    rcases hR with ⟨rfl, h0⟩ | ⟨b, _, rfl, h3⟩
    · have : l = [] := by simpa using h0
      subst this; exact .inl ⟨true, rfl⟩
    · exact .inr (.inl ⟨b, false, by simp, h3⟩)
  have hI : ∀ K : AV → AHeap → Prop, K (.v (.int .i64 (idxI pr l))) L → ACall X 80 [a, .fn (.func g) [] [ptrTo q]] L K := fun K hK =>
    ACall.undr (indexFuncI_c g [ptrTo q] pr a l hl L hArr (fun x _ K hK => hg x L hq K hK) K hK)
  refine ACall_intro Tryz.func75 rfl (by kernel_rfl) (by rw [Tryz.ntmps75]; simp) ?_; rw [Tryz.ntmps75]; simp only [frame0, Nat.reduceAdd]
  (apply sR; intro K hK; refine qr ?_; refine s_nil (hK _ _ ?_); clear hK K; apply sR; intro K hK; (iterate 2 (refine qr ?_)); apply s_call; decide; (iterate 2 (simp only [go_sem]; rfl)); apply hI; refine qr ?_; refine s_nil (hK _ _ ?_); clear hK K; apply sK; intro K hK; apply sR; intro K hK; (iterate 2 (refine qr ?_)); refine s_nil (hK _ _ ?_); clear hK K)
  rcases idx_split pr l with ⟨h1, h2⟩ | ⟨i, x, h1, hix, hpx, hkeep⟩
  · rw [h1]
    skip
    refine cs (fun hz => ?_) (fun hz => ?_)
    rotate_left
    · simp at hz
    (apply sR; intro K hK; (iterate 2 (refine qr ?_)); refine s_nil (hK _ _ ?_); clear hK K; apply AWp_ret; simp only [AThen, ABlock]; apply end_ret; rfl; simp only [AFr.get, reduceIte, Nat.reduceEqDiff])
    rw [h2] at h
    exact h _ _ hR hE (Keeps.refl _ _)
  have hil := (List.getElem?_eq_some_iff.1 hix).1
  obtain ⟨b, hHb, rfl, gb⟩ := hR.row (by intro e; rw [List.map_eq_nil_iff] at e; subst e; simp at hil)
  rw [h1, List.length_map]
  skip
  refine cs (fun hz => ?_) (fun hz => ?_)
  · simp at hz <;> omega
  have hw1 : IntKind.i64.wrap ((i : Int) + 1) = ((i + 1 : Nat) : Int) := wrapS hil (by omega)
  (refine AWp_skip (hK _ _ ?_); clear hK K; apply sK; intro K hK; apply sR; intro K hK; (iterate 3 (apply s_q; decide; rfl; (simp only [go_sem, hw1]; rfl))); refine s_nil (hK _ _ ?_); clear hK K; apply AWp_block)
  have hC0 : Cut pr l l i (i + 1) := ⟨rfl, by omega, by rw [take_succ hix, List.filter_append, hkeep]; simp [hpx], fun _ _ => rfl⟩
  have hqb : q ≠ b := by rintro rfl; rw [gb] at hq; cases hq; exact ho _ _ _ rfl
  refine AWp_loop_s (σ := Nat × Nat × List Int) [0, 1, 5, 6] (fun s => [.row b 1 l.length, .fn (.func g) [] [ptrTo q], .v (.int .i64 (s.1 : Int)), .v (.int .i64 (s.2.1 : Int))]) (fun s => L.put b (.row 3 1 false (s.2.2.map intCells))) (fun s => l.length - s.2.1)
    (fun s => s.2.1 ≤ l.length ∧ Cut pr l s.2.2 s.1 s.2.1) (i, i + 1, l) ⟨hil, hC0⟩ rfl (by rw [put_same gb]) (fun s hs => ?_)
  obtain ⟨i2, j, R⟩ := s
  obtain ⟨hj, hC⟩ := hs
  simp only [List.zip_cons_cons, List.zip_nil_right] at hj hC ⊢
  have hgb := AHeap.get_put_same b (.row 3 1 false (R.map intCells)) L
  have hgq := get_other (x := .row 3 1 false (R.map intCells)) hq hqb
  have hRl := hC.len
  (apply sK; intro K hK; apply sR; intro K hK; (iterate 4 (refine qr ?_)); refine s_nil (hK _ _ ?_); clear hK K)
  refine cs (fun hd => ?_) (fun hd => ?_)
  · have hjl : j < l.length := by simpa using hd
    obtain ⟨y, hy⟩ := gete hjl
    have hRy := (hC.rest j (Nat.le_refl _)).trans hy
    have hgy := int_at hRy
    have hltj : ((j : Int) < (l.length : Int)) = True := by simp; omega
    have hlti : ((i2 : Int) < (l.length : Int)) = True := by have := hC.le; simp; omega
    have hgy2 := fun (K : AV → AHeap → Prop) hK => ACall.undr (hg y _ hgq K hK)
    (refine AWp_skip (hK _ _ ?_); clear hK K; apply sK; intro K hK; apply AWp_block; apply sR; intro K hK; (iterate 5 (apply s_q; decide; rfl; (simp only [go_sem, hgb, hgy, hltj]; rfl))); refine s_nil (hK _ _ ?_); clear hK K; apply sR; intro K hK; (iterate 2 (apply s_q; decide; rfl; (simp only [go_sem, hgb, hgy, hltj]; rfl))); apply s_call; decide; (iterate 2 (simp only [go_sem, hgb, hgy, hltj]; rfl)); apply hgy2; apply s_q; decide; rfl; (simp only [go_sem, hgb, hgy, hltj]; rfl); refine s_nil (hK _ _ ?_); clear hK K)
    refine cs (fun he => ?_) (fun he => ?_)
    · have hpy : pr y = false := by simpa using he
      have hgi : (R.map intCells)[i2]? = some [.v (.int .i64 (R.getD i2 0))] := by
        obtain ⟨z, hz⟩ := gete (l := R) (i := i2) (by have := hC.le; omega)
        rw [int_at hz, getD_some hz]
      have hw2 : IntKind.i64.wrap ((i2 : Int) + 1) = ((i2 + 1 : Nat) : Int) := wrapS (n := l.length) (by have := hC.le; omega) (by omega)
      (apply sR; intro K hK; (iterate 4 (apply s_q; decide; rfl; (simp only [go_sem, hgb, hgi, hlti, hw2]; rfl))); apply s_store; (iterate 3 (simp only [go_sem, hgb, hgi, hlti, hw2]; rfl)); refine s_nil (hK _ _ ?_); clear hK K; apply s_region; (iterate 3 (apply s_q; decide; rfl; (simp only [go_sem, hgb, hgi, hlti, hw2]; rfl))); refine s_nil (hK _ _ ?_); clear hK K; apply s_region; (iterate 3 (apply s_q; decide; rfl; (simp only [go_sem, hgb, hgi, hlti, hw2]; rfl))); apply s_nil; simp only [AThen, ABlock])
      refine ⟨(i2 + 1, j + 1, R.set i2 y), by simp only; omega, ⟨by simp only; omega, hC.step_keep hy hpy⟩, ?_, ?_⟩
      · simp only [getAll, List.map, AFr.get, reduceIte, Nat.reduceEqDiff]
        rw [wrapS hjl (by omega)]; try rfl
      · simp only [List.map_set]; rfl
    · have hpy : pr y = true := by simpa using he
      (refine AWp_skip (hK _ _ ?_); clear hK K; apply s_region; (iterate 3 (refine qr ?_)); apply s_nil; simp only [AThen, ABlock])
      refine ⟨(i2, j + 1, R), by simp only; omega, ⟨by simp only; omega, hC.step_drop hy hpy⟩, ?_, by trivial⟩
      simp only [getAll, List.map, AFr.get, reduceIte, Nat.reduceEqDiff]
      rw [wrapS hjl (by omega)]; try rfl
  · have hge : j = l.length := by simp at hd; omega
    subst hge
    have hle := hC.le
    have hk := hC.kept
    rw [List.take_length] at hk
    have hlen2 : (l.filter fun x => !pr x).length = i2 := by rw [← hk, List.length_take]; omega
    have c1 : (0 ≤ (i2 : Int) ∧ (i2 : Int) ≤ (l.length : Int)) = True := by simp; omega
    have hvw : sliceK (.sl 3 (some 1)) (.row b 1 l.length) (some (.v (.int .i64 (i2 : Int)))) none none = some (.vw b 1 i2 (l.length - i2)) := by
      simp [sliceK, boundV]; omega
    have hrw : sliceK (.sl 3 (some 1)) (.row b 1 l.length) none (some (.v (.int .i64 (i2 : Int)))) none = some (.row b 1 i2) := by
      simp [sliceK]; omega
    (apply AWp_exit; simp only [AThen, ABlock, reduceIte, Nat.reduceEqDiff]; clear hK K; refine hK _ _ ?_; clear hK K; apply sR; intro K hK; (iterate 2 (refine qr ?_)))
    apply s_q; decide; rfl; (simp only [pvK, AFr.ev, AFr.get, reduceIte, Nat.reduceEqDiff, tk_38, Option.map_some, Option.map_none, AV.ofC]; exact hvw)
    apply s_clearV (by simp only [go_sem]; rfl) hgb (by rw [List.length_map]; omega) Tryz.underlying38 Tryz.zeroValue3
    rw [AHeap.put_put, ← List.map_take, hk]
    (refine s_nil (hK _ _ ?_); clear hK K; apply sR; intro K hK; (iterate 2 (refine qr ?_)); (apply s_q; decide; rfl; (simp only [pvK, AFr.ev, AFr.get, reduceIte, Nat.reduceEqDiff, tk_38, Option.map_some, Option.map_none, AV.ofC]; exact hrw)); refine qr ?_; refine s_nil (hK _ _ ?_); clear hK K; apply AWp_ret)
    refine h _ _ (.inr ⟨b, hHb, by rw [List.length_map, hlen2]; rfl, AHeap.get_put_same _ _ _⟩) (hE.over hHb) (fun c o' hc hne => ?_)
    rw [AHeap.get_put, if_neg]
    · exact hc
    · rintro rfl; rw [gb] at hc; cases hc; exact hne _ _ _ rfl

theorem values_c (t : Bool) (l : List Int) (H : AHeap) (K : AV → AHeap → Prop) (h : ∀ c, H.get c = none → K (.fn (.func 79) [] [ptrTo c]) (H.put c (.box 38 [.sl t (l.map intCells)]))) : ACall X 45 [.sl t (l.map intCells)] H K := by
  refine ACall_intro Tryz.func45 rfl (by kernel_rfl) (by rw [Tryz.ntmps45]; simp) ?_; rw [Tryz.ntmps45]; simp only [frame0, Nat.reduceAdd]
  (apply sR; intro K hK; apply s_box; decide; (iterate 2 (simp only [go_sem]; rfl)); intro b hb; refine qr ?_; refine s_nil (hK _ _ ?_); clear hK K; apply sR; intro K hK; (iterate 2 (refine qr ?_)); refine s_nil (hK _ _ ?_); clear hK K; apply AWp_ret)
  exact h _ (by assumption)
theorem iterV_c (y c : Nat) (t : Bool) (l : List Int) (hl : l.length ≤ 1000000) (I : Nat → AHeap → Prop) (Kc : AV → AHeap → Prop)
    (hI : ∀ n H, I n H → H.get c = some (.box 38 [.sl t (l.map intCells)]))
    (hy : ∀ (n : Nat) (x : Int) (H : AHeap), l[n]? = some x → I n H → AYield X y [.v (.int .i64 x)] H (fun a H' => (a = .v (.bool true) ∧ I (n + 1) H') ∨ (a = .v (.bool false) ∧ Kc (.tup []) H')))
    (h0 : ∀ H, I l.length H → Kc (.tup []) H) (H : AHeap) (hH : I 0 H) : ACall X 79 [.fn (.yield y) [] [], ptrTo c] H Kc := by
  have hg0 := hI _ _ hH
  refine ACall_intro Tryz.func79 rfl (by kernel_rfl) (by rw [Tryz.ntmps79]; simp) ?_; rw [Tryz.ntmps79]; simp only [frame0, Nat.reduceAdd]
  (apply sR; intro K hK; (iterate 3 (apply s_q; decide; rfl; (simp only [go_sem, hg0]; rfl))); refine s_nil (hK _ _ ?_); clear hK K; apply AWp_block)
  refine AWp_loop_s (σ := Nat × AHeap) [0, 1, 5, 6, 7] (fun s => [.fn (.yield y) [] [], ptrTo c, .sl t (l.map intCells), .v (.int .i64 (l.length : Nat)), .v (.int .i64 s.1)]) (fun s => s.2) (fun s => l.length - s.1) (fun s => s.1 ≤ l.length ∧ I s.1 s.2) (0, H) ⟨Nat.zero_le _, hH⟩ rfl rfl (fun s hs => ?_)
  obtain ⟨n, L⟩ := s
  obtain ⟨hn, hIL⟩ := hs
  simp only [List.zip_cons_cons, List.zip_nil_right] at hn hIL ⊢
  (apply sR; intro K hK; refine qr ?_; refine s_nil (hK _ _ ?_); clear hK K; apply sK; intro K hK)
  refine cs (fun hd => ?_) (fun hd => ?_)
  · have hlt : n < l.length := by simpa using hd
    obtain ⟨x, hx⟩ := gete hlt
    have hgx := int_at hx
    (refine AWp_skip (hK _ _ ?_); clear hK K; apply sK; intro K hK; apply AWp_block; apply sR; intro K hK; (iterate 3 (apply s_q; decide; rfl; (simp only [go_sem, hgx]; rfl))); refine s_nil (hK _ _ ?_); clear hK K; apply sR; intro K hK; (iterate 2 (apply s_q; decide; rfl; (simp only [go_sem, hgx]; rfl))))
    apply s_yield; decide; exact (by simp only [go_sem]; try rfl); exact (by simp only [go_sem]; try rfl)
    refine AYield.mono (hy n x _ hx hIL) ?_
    rintro a L' (⟨rfl, hI'⟩ | ⟨rfl, hK'⟩)
    · (refine qr ?_; refine s_nil (hK _ _ ?_); clear hK K)
      refine cs (fun hz => ?_) (fun hz => ?_)
      · cases hz
      (refine AWp_skip (hK _ _ ?_); clear hK K; apply s_region; (iterate 2 (refine qr ?_)); apply s_nil; simp only [AThen, ABlock])
      refine ⟨(n + 1, L'), by simp only; omega, ⟨by simp only; omega, hI'⟩, ?_, by trivial⟩
      simp only [getAll, List.map, AFr.get, reduceIte, Nat.reduceEqDiff]
      rw [wrapS hlt (by omega)]; try rfl
    · (refine qr ?_; refine s_nil (hK _ _ ?_); clear hK K)
      refine cs (fun hz => ?_) (fun hz => ?_)
      rotate_left
      · cases hz
      (apply AWp_ret; simp only [AThen, ABlock]; apply end_ret; rfl)
      exact hK'
  · have hge : n = l.length := by simp at hd; omega
    subst hge
    (apply AWp_exit; simp only [AThen, ABlock, reduceIte, Nat.reduceEqDiff])
    apply end_normal; rfl
    exact h0 _ hIL

theorem appendSeq_c (cb : Nat) (t : Bool) (l : List Int) (hl : l.length ≤ 1000000) (H : AHeap) (hcb : H.get cb = some (.box 38 [.sl t (l.map intCells)])) (Kc : AV → AHeap → Prop)
    (h : ∀ s L, Ext H L → RowAt 3 1 H L (l.map intCells) s → Kc s L) : ACall X 92 [.sl true [], .fn (.func 79) [] [ptrTo cb]] H Kc := by
  refine ACall_intro Tryz.func92 rfl (by kernel_rfl) (by rw [Tryz.ntmps92]; simp) ?_; rw [Tryz.ntmps92]; simp only [frame0, Nat.reduceAdd]
  apply sR; intro K hK
  apply s_box; decide; exact (by simp only [go_sem]; try rfl); exact (by simp only [go_sem]; try rfl); intro B hB
  have e1 := AHeap.get_put_same B (.box 38 [.sl true []]) H
  have e2 := get_fresh hcb hB (x := .box 38 [.sl true []])
  have e3 := Ext.fresh hB (o := .box 38 [.sl true []])
  generalize AHeap.put B (.box 38 [.sl true []]) H = M at e1 e2 e3 ⊢
  (refine qr ?_; refine s_nil (hK _ _ ?_); clear hK K; apply sK; intro K hK; apply sR; intro K hK; refine qr ?_; refine s_nil (hK _ _ ?_); clear hK K; apply AWp_block)
  refine AWp_cut [2, 6] (vs := [ptrTo B, .fn (.func 79) [] [ptrTo cb]]) rfl ?_
  simp only [List.zip_cons_cons, List.zip_nil_right]
  apply AWp_rangeFunc; exact (by simp only [go_sem]; try rfl); intro y hy
  generalize hlo : AObj.loop 13 _ _ _ _ LoopState.ready none = lo
  have y1 := get_ne_fresh e1 hy
  have y2 := get_ne_fresh e2 hy
  have hHy : H.get y = none := none_of_ext e3 hy
  have hHB : H.get B = none := hB
  refine iterV_c y cb t l hl (fun n L => L.get y = some lo ∧ L.get cb = some (.box 38 [.sl t (l.map intCells)]) ∧ Ext H L ∧ ∃ sv, L.get B = some (.box 38 [sv]) ∧ RowAt 3 1 H L ((l.take n).map intCells) sv) _ (fun n L h => h.2.1) ?_ ?_ _ ?_
  · rintro n x L hx ⟨g1, g2, g3, sv, g4, gR⟩
    obtain ⟨g5, g6⟩ : HeldAt 3 1 L ((l.take n).map intCells) sv ∧ (∀ b n, sv = .row b 1 n → H.get b = none) := by
      rcases gR with ⟨rfl, h0⟩ | ⟨b, h1, rfl, h3⟩
      · exact ⟨.inl (by rw [h0]), by intro b n h; cases h⟩
      · exact ⟨.inr ⟨b, rfl, h3⟩, by intro b' n h; cases h; exact h1⟩
    rw [← hlo] at g1
    apply AYield_intro g1 rfl; decide
    simp only [putAll, List.toList_toArray]
    (apply s_region; apply s_q; (dsimp only; decide); rfl; (simp only [go_sem]; rfl); apply s_nil; simp only [AThen, ABlock])
    refine ⟨g1, ?_⟩
    generalize hlb : AObj.loop 13 _ _ _ _ LoopState.busy none = lb
    have c2 : (L.put y lb).get cb = some (.box 38 [.sl t (l.map intCells)]) := by rw [AHeap.get_put, if_neg y2]; exact g2
    have c3 := g3.over (o := lb) hHy
    have c4 : (L.put y lb).get B = some (.box 38 [sv]) := by rw [AHeap.get_put, if_neg y1]; exact g4
    have c5 := g5.put g1 (fun _ _ _ h => by cases h) (o' := lb)
    have d1 := AHeap.get_put_same y lb L
    have hnl : n < l.length := (List.getElem?_eq_some_iff.1 hx).1
    generalize L.put y lb = N at c2 c3 c4 c5 d1 ⊢
    have hlen1 : ∀ e ∈ ((l.take n).map intCells), e.length = 1 := fun e he => by
      obtain ⟨d, _, rfl⟩ := List.mem_map.1 he; rfl
    have hne : ∀ q o', N.get q = some o' → (∀ sz sn es, o' ≠ .row 3 sz sn es) → ∀ b, sv = .row b 1 ((l.take n).map intCells).length → q ≠ b := by
      rintro q o' hq' ho' b hb rfl
      rcases c5 with h1 | ⟨b2, h1, h2⟩
      · rw [h1] at hb; cases hb
      · rw [h1] at hb; cases hb
        rw [h2] at hq'; cases hq'
        exact ho' _ _ _ rfl
    (apply AWp_block; apply s_region; (iterate 2 (apply s_q; (dsimp only; decide); rfl; (simp only [go_sem, c4]; rfl))); apply s_lit; (dsimp only; decide); exact el_38; (iterate 2 (simp only [go_sem, c4]; rfl)); decide; apply s_append; (dsimp only; decide); (iterate 2 (simp only [go_sem, c4]; rfl)); apply AApp_push el_38 c5 hlen1 (nes := [[.v (.int .i64 x)]]) (fun M => src_sl tk_38 (fun e he => by simp at he; subst he; exact ⟨rfl, rfl⟩)) (by simp) (by simp; omega) (by simp; omega); intro nb L2 k1 k2)
    have f1 := (k2 y _ d1 (hne y _ d1 (by rw [← hlb]; intro _ _ _ h; cases h))).1
    have f2 := (k2 cb _ c2 (hne cb _ c2 (by intro _ _ _ h; cases h))).1
    have f6 : Ext H L2 := fun q o' hq' => (k2 q o' (c3 q o' hq') (by rintro b hb rfl; rw [g6 _ _ hb] at hq'; cases hq')).1
    have f8 := (k2 B _ c4 (hne B _ c4 (by intro _ _ _ h; cases h))).1
    have f10 : H.get nb = none := by
      cases hx2 : H.get nb with
      | none => rfl
      | some o' => exact absurd rfl (k2 nb o' (c3 nb o' hx2) (by rintro b hb rfl; rw [g6 _ _ hb] at hx2; cases hx2)).2
    have hcbB : cb ≠ B := by rintro rfl; rw [hcb] at hHB; cases hHB
    have hnbB : nb ≠ B := by rintro rfl; rw [f8] at k1; cases k1
    have hnby : nb ≠ y := by rintro rfl; rw [f1] at k1; rw [← hlb] at k1; cases k1
    have hpp : ((l.take n).map intCells ++ [[.v (.int .i64 x)]]) = (l.take (n + 1)).map intCells := by rw [take_succ hx]; simp [intCells]
    have f12 : (L2.put B (.box 38 [.row nb 1 ((l.take n).map intCells ++ [[AV.v (.int .i64 x)]]).length])).get y = some lb := by rw [AHeap.get_put, if_neg (Ne.symm y1)]; exact f1
    (apply s_store; (iterate 3 (simp only [go_sem, f8]; rfl)); apply s_nil; simp only [AThen, ABlock])
    simp only [ABlock, ARound]
    refine ⟨by rw [hlb]; exact f12, .inl ⟨by trivial, ?_, ?_, ?_, .row nb 1 ((l.take n).map intCells ++ [[AV.v (.int .i64 x)]]).length, ?_, ?_⟩⟩
    · rw [AHeap.get_put_same, hlo]
    · rw [AHeap.get_put, if_neg y2, AHeap.get_put, if_neg hcbB]; exact f2
    · exact (f6.over hHB).over hHy
    · rw [AHeap.get_put, if_neg y1, AHeap.get_put_same]
    · rw [hpp] at k1 ⊢
      exact .inr ⟨nb, f10, rfl, by rw [AHeap.get_put, if_neg hnby, AHeap.get_put, if_neg hnbB]; exact k1⟩
  · rintro L ⟨g1, g2, g3, sv, g4, g5⟩
    refine ⟨_, .ready, none, by rw [g1, ← hlo], by simp, ?_⟩
    simp only [ABlock, AThen]
    have hlor : ∀ sz sn es, lo ≠ .row 3 sz sn es := by rw [← hlo]; intro _ _ _ h; cases h
    have q1 : (AHeap.del y L).get B = some (.box 38 [sv]) := by rw [AHeap.get_del, if_neg y1]; exact g4
    have q2 := g3.del hHy
    have q3 := g5.del g1 hlor
    rw [List.take_length] at q3
    refine hK _ _ ?_
    (apply sR; intro K hK; (iterate 2 (apply s_q; decide; rfl; (simp only [go_sem, q1]; rfl))); refine s_nil (hK _ _ ?_); clear hK K; apply AWp_ret)
    exact h sv _ q2 q3
  · refine ⟨AHeap.get_put_same _ _ _, get_fresh e2 hy, e3.put hy, .sl true [], get_fresh e1 hy, .inl ⟨rfl, rfl⟩⟩
theorem collect_c (cb : Nat) (t : Bool) (l : List Int) (hl : l.length ≤ 1000000) (H : AHeap) (hcb : H.get cb = some (.box 38 [.sl t (l.map intCells)])) (Kc : AV → AHeap → Prop)
    (h : ∀ s L, Ext H L → RowAt 3 1 H L (l.map intCells) s → Kc s L) : ACall X 56 [.fn (.func 79) [] [ptrTo cb]] H Kc := by
  refine ACall_intro Tryz.func56 rfl (by kernel_rfl) (by rw [Tryz.ntmps56]; simp) ?_; rw [Tryz.ntmps56]; simp only [frame0, Nat.reduceAdd]
  (apply sR; intro K hK; refine qr ?_; refine s_nil (hK _ _ ?_); clear hK K; apply sR; intro K hK; refine qr ?_; apply s_call; decide; (iterate 2 (simp only [go_sem]; rfl)); apply appendSeq_c cb t l hl H hcb; intro s L h1 h2; refine qr ?_; refine s_nil (hK _ _ ?_); clear hK K; apply AWp_ret)
  exact h s L h1 h2

def tPower : List UInt8 := [109, 46, 114, 111, 111, 109, 46, 112, 111, 119, 101, 114, 95, 108, 101, 118, 101, 108, 115]
def tCreate : List UInt8 := [109, 46, 114, 111, 111, 109, 46, 99, 114, 101, 97, 116, 101]
def lineF (p : Pa) : Nat → Int → List Int
  | 0, _ => []
  | f + 1, i => if i < 0 then [] else i :: lineF p f (leanI p i.toNat tPower)
def lineL (p : Pa) (i : Int) : List Int := lineF p (i.toNat + 1) i
theorem lineF_neg (p : Pa) (f : Nat) : lineF p f (-1) = [] := by cases f <;> simp [lineF]
theorem lineF_more {p : Pa} (hr : p.Right) : ∀ (f g : Nat) (i : Int), i < f → i < g → lineF p f i = lineF p g i
  | 0, g, i, h1, _ => by
    cases g with
    | zero => rfl
    | succ g => rw [lineF, lineF, if_pos (by omega)]
  | f + 1, 0, i, _, h2 => by rw [lineF, lineF, if_pos (by omega)]
  | f + 1, g + 1, i, h1, h2 => by
    rw [lineF, lineF]
    split
    · rfl
    · rename_i h
      congr 1
      rcases leanI_lt hr (i := i.toNat) (kind := tPower) with e | ⟨n, e, h3, _⟩
      · rw [e, lineF_neg, lineF_neg]
      · rw [e]
        exact lineF_more hr f g n (by omega) (by omega)
theorem line_neg (p : Pa) : lineL p (-1) = [] := lineF_neg _ _
theorem line_step {p : Pa} (hr : p.Right) (i : Nat) : lineL p i = (i : Int) :: lineL p (leanI p i tPower) := by
  rw [lineL, lineF, if_neg (by omega), Int.toNat_natCast]
  congr 1
  rcases leanI_lt hr (i := i) (kind := tPower) with e | ⟨n, e, h3, _⟩
  · rw [e, lineF_neg, line_neg]
  · rw [e, lineL]
    exact lineF_more hr _ _ _ (by omega) (by omega)
def lineP (p : Pa) (i : Int) : List Int := if inR p.events.length i = true then lineL p i else []
abbrev ibox (v : Int) : AObj := .box 3 [.v (.int .i64 v)]
theorem back_c (p : Pa) (i : Int) (H : AHeap) (K : AV → AHeap → Prop) (h : ∀ q c, H.get q = none → (H.put q (paBox p)).get c = none → K (.fn (.func 93) [] [ptrTo q, ptrTo c]) ((H.put q (paBox p)).put c (ibox i))) : ACall X 57 [.agg p.cells, .v (.int .i64 i)] H K := by
  rw [Pa.cells]
  refine ACall_intro Tryz.func57 rfl (by kernel_rfl) (by rw [Tryz.ntmps57]; simp) ?_; rw [Tryz.ntmps57]; simp only [frame0, Nat.reduceAdd]
  apply sR; intro K hK
  apply s_box; decide; exact (by simp only [go_sem]; try rfl); exact (by simp only [go_sem]; try rfl); intro q hq
  apply s_box; decide; exact (by simp only [go_sem]; try rfl); exact (by simp only [go_sem]; try rfl); intro c hc
  (refine qr ?_; refine s_nil (hK _ _ ?_); clear hK K; apply sR; intro K hK; (iterate 2 (refine qr ?_)); refine s_nil (hK _ _ ?_); clear hK K; apply AWp_ret)
  exact h q c hq hc
set_option maxHeartbeats 4000000 in
theorem iterB_c (p : Pa) (hw : p.Wide) (hr : p.Right) (i0 : Int) (y q c : Nat) (I : Nat → AHeap → Prop) (Kc : AV → AHeap → Prop)
    (hq : ∀ n H, I n H → H.get q = some (paBox p)) (hst : ∀ n H v, I n H → I n (H.put c (ibox v)))
    (hy : ∀ (n : Nat) (x : Int) (H : AHeap), (lineP p i0)[n]? = some x → I n H → H.get c = some (ibox x) → AYield X y [.v (.int .i64 x)] H (fun a H' => (a = .v (.bool true) ∧ I (n + 1) H' ∧ H'.get c = some (ibox x)) ∨ (a = .v (.bool false) ∧ Kc (.tup []) H')))
    (h0 : ∀ H, I (lineP p i0).length H → Kc (.tup []) H) (H : AHeap) (hH : I 0 H) (hc : H.get c = some (ibox i0)) : ACall X 93 [.fn (.yield y) [] [], ptrTo q, ptrTo c] H Kc := by
  have hq' : ∀ n H, I n H → H.get q = some (.box 35 [.sl false (p.names.map strCells), .sl false (p.events.map Ev.cells), .sl false (p.prev.map rowCells), .sl false (p.auth.map rowCells), .sl false (p.denied.map bolCells)]) := hq
  have hg0 := hq' _ _ hH
  have hT : ∀ (i : Int) (H : AHeap) (K : AV → AHeap → Prop), K (.v (.bool (inR p.events.length i))) H → ACall X 37 [.agg [.sl false (p.names.map strCells), .sl false (p.events.map Ev.cells), .sl false (p.prev.map rowCells), .sl false (p.auth.map rowCells), .sl false (p.denied.map bolCells)], .v (.int .i64 i)] H K := fun i H K hK => there_c p hw i H K hK
  have hF : ∀ (i : Nat), i < p.events.length → ∀ (H : AHeap) (K : AV → AHeap → Prop), K (.v (.int .i64 (leanI p i tPower))) H → ACall X 67 [.agg [.sl false (p.names.map strCells), .sl false (p.events.map Ev.cells), .sl false (p.prev.map rowCells), .sl false (p.auth.map rowCells), .sl false (p.denied.map bolCells)], .v (.int .i64 i), .s tPower] H K := fun i hi H K hK => first_c p hw hr i hi tPower H K hK
  refine ACall_intro Tryz.func93 rfl (by kernel_rfl) (by rw [Tryz.ntmps93]; simp) ?_; rw [Tryz.ntmps93]; simp only [frame0, Nat.reduceAdd]
  (apply sK; intro K hK; apply sR; intro K hK; (iterate 2 (apply s_q; decide; rfl; (simp only [go_sem, hg0, hc]; rfl))); apply s_call; decide; (iterate 2 (simp only [go_sem, hg0, hc]; rfl)); apply hT; apply s_q; decide; rfl; (simp only [go_sem, hg0, hc]; rfl); refine s_nil (hK _ _ ?_); clear hK K)
  refine cs (fun hz => ?_) (fun hz => ?_)
  · have hz : inR p.events.length i0 = false := by simpa using hz
    have hL : lineP p i0 = [] := by rw [lineP, if_neg (by rw [hz]; decide)]
    rw [hL] at h0
    (apply AWp_ret; simp only [AThen, ABlock]; apply end_ret; rfl)
    exact h0 _ hH
  have hz : inR p.events.length i0 = true := by simpa using hz
  have hL : lineP p i0 = lineL p i0 := by rw [lineP, if_pos hz]
  have hz : 0 ≤ i0 ∧ i0 < p.events.length := by simpa [inR] using hz
  rw [hL] at hy h0
  clear hL
  (refine AWp_skip (hK _ _ ?_); clear hK K; apply AWp_block)
  refine AWp_loop_s (σ := Nat × Int × AHeap) [0, 1, 2] (fun s => [.fn (.yield y) [] [], ptrTo q, ptrTo c]) (fun s => s.2.2) (fun s => (s.2.1 + 1).toNat)
    (fun s => (lineL p i0).drop s.1 = lineL p s.2.1 ∧ s.1 ≤ (lineL p i0).length ∧ -1 ≤ s.2.1 ∧ s.2.1 < p.events.length ∧ I s.1 s.2.2 ∧ s.2.2.get c = some (ibox s.2.1)) (0, i0, H) ⟨rfl, Nat.zero_le _, by simp only; omega, hz.2, hH, hc⟩ rfl rfl (fun s hs => ?_)
  obtain ⟨n, cur, L⟩ := s
  obtain ⟨hdr, hnl, hm1, hlt, hI, hcL⟩ := hs
  clear hH hc hg0
  simp only [List.zip_cons_cons, List.zip_nil_right] at hdr hnl hm1 hlt hI hcL ⊢
  have hqL := hq' _ _ hI
  rcases Int.lt_or_le cur 0 with hneg | hpos
  · obtain rfl : cur = -1 := by omega
    rw [line_neg] at hdr
    have hfin : n = (lineL p i0).length := by have := List.drop_eq_nil_iff.1 hdr; omega
    subst hfin
    have hno : decide ((0 : Int) ≤ -1) = false := by decide
    (apply sK; intro K hK; apply sR; intro K hK; (iterate 3 (apply s_q; decide; rfl; (simp only [go_sem, hcL, hno]; rfl))); (iterate 2 (apply s_spec; decide; rfl; rfl; (iterate 4 (simp only [go_sem, hcL, hno]; rfl)); trivial)))
    apply s_gno (.v (.bool false)); decide; rfl; (iterate 4 (simp only [go_sem, hno]; rfl)); trivial
    (apply s_pick; decide; (iterate 6 (simp only [go_sem, hno]; rfl)); trivial; trivial; trivial; refine s_nil (hK _ _ ?_); clear hK K)
    refine cs (fun he => ?_) (fun he => ?_)
    · cases he
    (apply AWp_exit; simp only [AThen, ABlock, reduceIte, Nat.reduceEqDiff])
    apply end_normal; rfl
    exact h0 _ hI
  · obtain ⟨i, rfl⟩ : ∃ i : Nat, cur = i := ⟨cur.toNat, by omega⟩
    rw [line_step hr] at hdr
    have hx : (lineL p i0)[n]? = some (i : Int) := by
      have : ((lineL p i0).drop n)[0]? = some (i : Int) := by rw [hdr]; rfl
      rwa [List.getElem?_drop, Nat.add_zero] at this
    have hyes : decide ((0 : Int) ≤ (i : Int)) = true := by simp
    (apply sK; intro K hK; apply sR; intro K hK; (iterate 3 (apply s_q; decide; rfl; (simp only [go_sem, hcL, decide_true]; rfl))); (iterate 2 (apply s_spec; decide; rfl; rfl; (iterate 4 (simp only [go_sem, hcL, decide_true]; rfl)); trivial)))
    apply s_yyield; decide; (simp only [go_sem, decide_true]; rfl); simp only [go_sem, decide_true]; (simp only [go_sem, decide_true]; rfl); trivial; (iterate 3 (simp only [go_sem, decide_true]; rfl))
    refine AYield.mono (hy n i _ hx hI hcL) ?_
    rintro r L' (⟨rfl, hI', hcL'⟩ | ⟨rfl, hK'⟩)
    · have hqL' := hq' _ _ hI'
      (apply s_pick; decide; (iterate 6 (simp only [go_sem, decide_true]; rfl)); trivial; trivial; trivial; refine s_nil (hK _ _ ?_); clear hK K)
      refine cs (fun he => ?_) (fun he => ?_)
      rotate_left
      · cases he
      (refine AWp_skip (hK _ _ ?_); clear hK K; apply AWp_block; apply s_region; (iterate 2 (apply s_q; decide; rfl; (simp only [go_sem, hqL', hcL']; rfl))); apply s_call; decide; (iterate 2 (simp only [go_sem, hqL', hcL']; rfl)); apply hF i (by omega); apply s_store; (iterate 3 (simp only [go_sem, hqL', hcL']; rfl)); apply s_nil; simp only [AThen, ABlock])
      refine ⟨(n + 1, leanI p i tPower, L'.put c (ibox (leanI p i tPower))), ?_, ⟨?_, ?_, ?_, ?_, hst _ _ _ hI', AHeap.get_put_same _ _ _⟩, by trivial, by trivial⟩
      · simp only
        rcases leanI_lt hr (i := i) (kind := tPower) with e | ⟨m, e, h3, _⟩ <;> rw [e] <;> omega
      · simp only
        rw [← List.drop_drop, hdr]; rfl
      · simp only
        have := (List.getElem?_eq_some_iff.1 hx).1
        omega
      · simp only
        rcases leanI_lt hr (i := i) (kind := tPower) with e | ⟨m, e, h3, _⟩ <;> rw [e] <;> omega
      · simp only
        rcases leanI_lt hr (i := i) (kind := tPower) with e | ⟨m, e, h3, _⟩ <;> rw [e] <;> omega
    · (apply s_pick; decide; (iterate 6 (simp only [go_sem, decide_true]; rfl)); trivial; trivial; trivial; refine s_nil (hK _ _ ?_); clear hK K)
      refine cs (fun he => ?_) (fun he => ?_)
      · cases he
      (apply AWp_exit; simp only [AThen, ABlock, reduceIte, Nat.reduceEqDiff])
      apply end_normal; rfl
      exact hK'

def smallB (c : Int) : Bool := (decide (97 ≤ c) && decide (c ≤ 122)) || (decide (48 ≤ c) && decide (c ≤ 57)) || decide (c = 46)
def serverB (c : Int) : Bool := smallB c || decide (c = 45)
def localB (c : Int) : Bool := smallB c || decide (c = 45) || decide (c = 95)

theorem small_c (c : Int) (H : AHeap) (K : AV → AHeap → Prop) (h : K (.v (.bool (smallB c))) H) : ACall X 137 [.v (.int .u8 c)] H K := by
  refine ACall_intro Tryz.func137 rfl (by kernel_rfl) (by rw [Tryz.ntmps137]; simp) ?_; rw [Tryz.ntmps137]; simp only [frame0, Nat.reduceAdd]
  (apply sR; intro K hK; refine qr ?_; refine s_nil (hK _ _ ?_); clear hK K; apply sR; intro K hK; (iterate 3 (refine qr ?_)); refine sp ?_; refine sp ?_; apply s_pick; decide; (iterate 6 (simp only [go_sem]; rfl)); trivial; simp [condsOk]; trivial; refine qr ?_; refine sp ?_; (iterate 2 (refine sp ?_)); refine sp ?_; refine sp ?_; apply s_pickg; decide; (iterate 8 (simp only [go_sem]; rfl)); simp [condsOk]; simp [condsOk]; trivial; apply s_pick; decide; (iterate 6 (simp only [go_sem]; rfl)); trivial; trivial; simp [condsOk]; refine qr ?_; refine sp ?_; refine sp ?_; apply s_pick; decide; (iterate 6 (simp only [go_sem]; rfl)); trivial; trivial; simp [condsOk]; refine qr ?_; refine s_nil (hK _ _ ?_); clear hK K; apply AWp_ret)
  refine finB h ?_
  unfold smallB
  generalize decide (97 ≤ c) = a1, decide (c ≤ 122) = a2, decide (48 ≤ c) = a3, decide (c ≤ 57) = a4, decide (c = 46) = a5
  revert a1 a2 a3 a4 a5; decide
theorem serverB_c (c : Int) (H : AHeap) (K : AV → AHeap → Prop) (h : K (.v (.bool (serverB c))) H) : ACall X 179 [.v (.int .u8 c)] H K := by
  refine ACall_intro Tryz.func179 rfl (by kernel_rfl) (by rw [Tryz.ntmps179]; simp) ?_; rw [Tryz.ntmps179]; simp only [frame0, Nat.reduceAdd]
  (apply sR; intro K hK; refine qr ?_; refine s_nil (hK _ _ ?_); clear hK K; apply sR; intro K hK; refine qr ?_; apply s_call; decide; (iterate 2 (simp only [go_sem]; rfl)); apply small_c; refine qr ?_; refine sp ?_; refine sp ?_; apply s_pick; decide; (iterate 6 (simp only [go_sem]; rfl)); trivial; trivial; simp [condsOk]; refine qr ?_; refine s_nil (hK _ _ ?_); clear hK K; apply AWp_ret)
  refine finB h ?_
  unfold serverB
  generalize smallB c = a1, decide (c = 45) = a2
  revert a1 a2; decide
theorem localB_c (c : Int) (H : AHeap) (K : AV → AHeap → Prop) (h : K (.v (.bool (localB c))) H) : ACall X 178 [.v (.int .u8 c)] H K := by
  refine ACall_intro Tryz.func178 rfl (by kernel_rfl) (by rw [Tryz.ntmps178]; simp) ?_; rw [Tryz.ntmps178]; simp only [frame0, Nat.reduceAdd]
  (apply sR; intro K hK; refine qr ?_; refine s_nil (hK _ _ ?_); clear hK K; apply sR; intro K hK; refine qr ?_; apply s_call; decide; (iterate 2 (simp only [go_sem]; rfl)); apply small_c; refine qr ?_; refine sp ?_; refine sp ?_; apply s_pick; decide; (iterate 6 (simp only [go_sem]; rfl)); trivial; trivial; simp [condsOk]; refine qr ?_; refine sp ?_; refine sp ?_; apply s_pick; decide; (iterate 6 (simp only [go_sem]; rfl)); trivial; trivial; simp [condsOk]; refine qr ?_; refine s_nil (hK _ _ ?_); clear hK K; apply AWp_ret)
  refine finB h ?_
  unfold localB
  generalize smallB c = a1, decide (c = 45) = a2, decide (c = 95) = a3
  revert a1 a2 a3; decide
def typeB (c : Int) : Bool := smallB c || decide (c = 95)
theorem typeB_c (c : Int) (H : AHeap) (K : AV → AHeap → Prop) (h : K (.v (.bool (typeB c))) H) : ACall X 136 [.v (.int .u8 c)] H K := by
  refine ACall_intro Tryz.func136 rfl (by kernel_rfl) (by rw [Tryz.ntmps136]; simp) ?_; rw [Tryz.ntmps136]; simp only [frame0, Nat.reduceAdd]
  (apply sR; intro K hK; refine qr ?_; refine s_nil (hK _ _ ?_); clear hK K; apply sR; intro K hK; refine qr ?_; apply s_call; decide; (iterate 2 (simp only [go_sem]; rfl)); apply small_c; refine qr ?_; refine sp ?_; refine sp ?_; apply s_pick; decide; (iterate 6 (simp only [go_sem]; rfl)); trivial; trivial; simp [condsOk]; refine qr ?_; refine s_nil (hK _ _ ?_); clear hK K; apply AWp_ret)
  refine finB h ?_
  unfold typeB
  generalize smallB c = a1, decide (c = 95) = a2
  revert a1 a2; decide
def ofB (p : UInt8 → Bool) (n : Int) (l : List UInt8) : Bool := !(decide (l = [])) && decide ((l.length : Int) ≤ n) && l.all p
theorem of_c (p : UInt8 → Bool) (g : FuncId) (hg : ∀ (c : UInt8) (H : AHeap) (K : AV → AHeap → Prop), K (.v (.bool (p c))) H → ACall X g [.v (.int .u8 c.toNat)] H K) (n : Int) (hn : n ≤ 1000000) (l : List UInt8) (H : AHeap) (K : AV → AHeap → Prop) (h : K (.v (.bool (ofB p n l))) H) :
    ACall X 135 [.s l, .v (.int .i64 n), .fn (.func g) [] []] H K := by
  refine ACall_intro Tryz.func135 rfl (by kernel_rfl) (by rw [Tryz.ntmps135]; simp) ?_; rw [Tryz.ntmps135]; simp only [frame0, Nat.reduceAdd]
  (apply sR; intro K hK; refine qr ?_; refine s_nil (hK _ _ ?_); clear hK K; apply sK; intro K hK; apply sR; intro K hK; (iterate 3 (refine qr ?_)); refine sp ?_; refine sp ?_; refine sp ?_; refine sp ?_; apply s_pick; decide; (iterate 6 (simp only [go_sem]; rfl)); trivial; trivial; simp [condsOk]; refine s_nil (hK _ _ ?_); clear hK K)
  refine cs (fun hc => ?_) (fun hc => ?_)
  · (apply sR; intro K hK; refine qr ?_; refine s_nil (hK _ _ ?_); clear hK K; apply AWp_ret; simp only [AThen, ABlock]; apply end_ret; rfl; simp only [AFr.get, reduceIte, Nat.reduceEqDiff])
    refine finB h ?_
    unfold ofB
    by_cases h0 : l = []
    · simp [h0]
    · have : ¬ (l.length : Int) ≤ n := by
        simp only [show ({ data := #[] } : ByteArray).data.toList = [] from rfl, decide_eq_false h0] at hc
        simpa using hc
      rw [decide_eq_false this]; simp
  · (refine AWp_skip (hK _ _ ?_); clear hK K; apply sK; intro K hK; apply sR; intro K hK; (iterate 3 (refine qr ?_)); refine s_nil (hK _ _ ?_); clear hK K; apply AWp_block)
    have hl0 : l ≠ [] := by
      rintro rfl
      simp only [show ({ data := #[] } : ByteArray).data.toList = [] from rfl] at hc
      simp at hc
    have hln : (l.length : Int) ≤ n := by
      simp only [show ({ data := #[] } : ByteArray).data.toList = [] from rfl, decide_eq_false hl0] at hc
      simpa using hc
    refine AWp_loop_s (σ := Nat) [0, 2, 17, 18] (fun i => [.s l, .fn (.func g) [] [], .v (.int .i64 l.length), .v (.int .i64 i)]) (fun _ => H) (fun i => l.length - i) (fun i => i ≤ l.length ∧ (l.take i).all p = true) 0 ⟨Nat.zero_le _, rfl⟩ rfl rfl (fun i hi => ?_)
    simp only [List.zip_cons_cons, List.zip_nil_right]
    (apply sR; intro K hK; refine qr ?_; refine s_nil (hK _ _ ?_); clear hK K; apply sK; intro K hK)
    refine cs (fun hc => ?_) (fun hc => ?_)
    · have hlt : i < l.length := by simpa using hc
      obtain ⟨c, hm⟩ := getc hlt
      (refine AWp_skip (hK _ _ ?_); clear hK K; apply sK; intro K hK; apply AWp_block; apply sR; intro K hK; (iterate 2 (apply s_q; decide; rfl; (simp only [go_sem, hm]; rfl))); refine s_nil (hK _ _ ?_); clear hK K; apply sR; intro K hK; (iterate 4 (apply s_q; decide; rfl; (simp only [go_sem, hm]; rfl))); apply s_call; decide; (iterate 2 (simp only [go_sem, hm]; rfl)); apply hg; apply s_q; decide; rfl; (simp only [go_sem, hm]; rfl); refine s_nil (hK _ _ ?_); clear hK K)
      refine cs (fun hd => ?_) (fun hd => ?_)
      · (apply sR; intro K hK; refine qr ?_; refine s_nil (hK _ _ ?_); clear hK K; apply AWp_ret; simp only [AThen, ABlock]; apply end_ret; rfl; simp only [AFr.get, reduceIte, Nat.reduceEqDiff])
        refine finB h ?_
        unfold ofB
        rw [not_all hm (by simpa using hd), Bool.and_false]
      · (refine AWp_skip (hK _ _ ?_); clear hK K; apply s_region; (iterate 2 (refine qr ?_)); apply s_nil; simp only [AThen, ABlock])
        refine ⟨i + 1, by omega, ⟨by omega, ?_⟩, ?_, by trivial⟩
        · rw [all_take hm hi.2]; simpa using hd
        · simp only [getAll, List.map_cons, List.map_nil, AFr.get]
          rw [wrapS hlt (by omega)]; rfl
    · have hge : l.length ≤ i := by simpa using hc
      (apply AWp_exit; simp only [AThen, ABlock, reduceIte, Nat.reduceEqDiff]; clear hK K; refine hK _ _ ?_; clear hK K; apply sR; intro K hK; refine qr ?_; refine s_nil (hK _ _ ?_); clear hK K; apply AWp_ret)
      refine finB h ?_
      unfold ofB
      have ha : l.all p = true := by rw [← hi.2, List.take_of_length_le hge]
      rw [decide_eq_false hl0, decide_eq_true hln, ha]; rfl

def isLocal (l : List UInt8) : Bool := ofB (fun c => localB c.toNat) 32 l
def isServer (l : List UInt8) : Bool := ofB (fun c => serverB c.toNat) 32 l
theorem local_c (l : List UInt8) (H : AHeap) (K : AV → AHeap → Prop) (h : K (.v (.bool (isLocal l))) H) : ACall X 170 [.s l] H K := by
  refine ACall_intro Tryz.func170 rfl (by kernel_rfl) (by rw [Tryz.ntmps170]; simp) ?_; rw [Tryz.ntmps170]; simp only [frame0, Nat.reduceAdd]
  (apply sR; intro K hK; refine qr ?_; refine s_nil (hK _ _ ?_); clear hK K; apply sR; intro K hK; refine qr ?_; apply s_call; decide; (iterate 2 (simp only [go_sem]; rfl)); apply of_c (fun c => localB c.toNat) 178 (fun c H K h => localB_c _ H K h) 32 (by decide); refine qr ?_; refine s_nil (hK _ _ ?_); clear hK K; apply AWp_ret)
  exact h
theorem server_c (l : List UInt8) (H : AHeap) (K : AV → AHeap → Prop) (h : K (.v (.bool (isServer l))) H) : ACall X 171 [.s l] H K := by
  refine ACall_intro Tryz.func171 rfl (by kernel_rfl) (by rw [Tryz.ntmps171]; simp) ?_; rw [Tryz.ntmps171]; simp only [frame0, Nat.reduceAdd]
  (apply sR; intro K hK; refine qr ?_; refine s_nil (hK _ _ ?_); clear hK K; apply sR; intro K hK; refine qr ?_; apply s_call; decide; (iterate 2 (simp only [go_sem]; rfl)); apply of_c (fun c => serverB c.toNat) 179 (fun c H K h => serverB_c _ H K h) 32 (by decide); refine qr ?_; refine s_nil (hK _ _ ?_); clear hK K; apply AWp_ret)
  exact h

def hasPre (l p : List UInt8) : Bool := decide (p.length ≤ l.length) && decide (l.take p.length = p)
theorem hasPrefix_c (l p : List UInt8) (H : AHeap) (K : AV → AHeap → Prop) (h : K (.v (.bool (hasPre l p))) H) : ACall X 181 [.s l, .s p] H K := by
  refine ACall_intro Tryz.func181 rfl (by kernel_rfl) (by rw [Tryz.ntmps181]; simp) ?_; rw [Tryz.ntmps181]; simp only [frame0, Nat.reduceAdd]
  (apply sR; intro K hK; refine qr ?_; refine s_nil (hK _ _ ?_); clear hK K; apply sR; intro K hK; (iterate 6 (refine qr ?_)); (iterate 2 (refine sp ?_)); refine sp ?_; apply s_when; decide; (iterate 3 (simp only [go_sem]; rfl)); simp [condsOk]; (intro hg; simp only [go_sem]; refine Eq.trans (if_pos ?_) rfl; simp at hg; omega); refine sp ?_; refine sp ?_; apply s_pick; decide; (iterate 6 (simp only [go_sem]; rfl)); trivial; simp [condsOk]; trivial; refine qr ?_; refine s_nil (hK _ _ ?_); clear hK K; apply AWp_ret)
  refine finB h ?_
  unfold hasPre
  simp only [List.drop_zero, Int.ofNat_le]
  generalize decide (p.length ≤ l.length) = a1, decide (l.take p.length = p) = a2
  revert a1 a2; decide
theorem cutPrefix0_c (l p : List UInt8) (H : AHeap) (K : AV → AHeap → Prop) (h : K (.tup [.s (if hasPre l p then l.drop p.length else l), .v (.bool (hasPre l p))]) H) : ACall X 176 [.s l, .s p] H K := by
  refine ACall_intro Tryz.func176 rfl (by kernel_rfl) (by rw [Tryz.ntmps176]; simp) ?_; rw [Tryz.ntmps176]; simp only [frame0, Nat.reduceAdd]
  (apply sR; intro K hK; (iterate 2 (refine qr ?_)); refine s_nil (hK _ _ ?_); clear hK K; apply sK; intro K hK; apply sR; intro K hK; (iterate 2 (refine qr ?_)); apply s_call; decide; (iterate 2 (simp only [go_sem]; rfl)); apply hasPrefix_c; refine qr ?_; refine s_nil (hK _ _ ?_); clear hK K)
  refine cs (fun hc => ?_) (fun hc => ?_)
  · (apply sR; intro K hK; (iterate 3 (refine qr ?_)); refine s_nil (hK _ _ ?_); clear hK K; apply AWp_ret; simp only [AThen, ABlock]; apply end_ret; rfl; simp only [AFr.get, reduceIte, Nat.reduceEqDiff])
    refine fin h ?_
    simp at hc; simp [hc]
  · have hp : hasPre l p = true := by simpa using hc
    have hle : p.length ≤ l.length := by simp [hasPre] at hp; exact hp.1
    (refine AWp_skip (hK _ _ ?_); clear hK K; apply sR; intro K hK; (iterate 3 (refine qr ?_)); (apply s_q; decide; rfl; (simp only [go_sem]; rw [if_pos ⟨by omega, Nat.le_refl _⟩])); (iterate 2 (refine qr ?_)); refine s_nil (hK _ _ ?_); clear hK K; apply AWp_ret)
    refine fin h ?_
    simp only [AFr.get, reduceIte, Nat.reduceEqDiff, if_pos hp, hp, List.take_length]
theorem cutPrefix_c (l p : List UInt8) (H : AHeap) (K : AV → AHeap → Prop) (h : K (.tup [.s (if hasPre l p then l.drop p.length else l), .v (.bool (hasPre l p))]) H) : ACall X 168 [.s l, .s p] H K := by
  refine ACall_intro Tryz.func168 rfl (by kernel_rfl) (by rw [Tryz.ntmps168]; simp) ?_; rw [Tryz.ntmps168]; simp only [frame0, Nat.reduceAdd]
  (apply sR; intro K hK; (iterate 2 (refine qr ?_)); refine s_nil (hK _ _ ?_); clear hK K; apply sR; intro K hK; (iterate 2 (refine qr ?_)); apply s_call; decide; (iterate 2 (simp only [go_sem]; rfl)); apply cutPrefix0_c; (iterate 4 (refine qr ?_)); refine s_nil (hK _ _ ?_); clear hK K; apply AWp_ret)
  exact h
def isType (l : List UInt8) : Bool := ofB (fun c => typeB c.toNat) 64 l
theorem type_c (l : List UInt8) (H : AHeap) (K : AV → AHeap → Prop) (h : K (.v (.bool (isType l))) H) : ACall X 103 [.s l] H K := by
  refine ACall_intro Tryz.func103 rfl (by kernel_rfl) (by rw [Tryz.ntmps103]; simp) ?_; rw [Tryz.ntmps103]; simp only [frame0, Nat.reduceAdd]
  (apply sR; intro K hK; refine qr ?_; refine s_nil (hK _ _ ?_); clear hK K; apply sR; intro K hK; refine qr ?_; apply s_call; decide; (iterate 2 (simp only [go_sem]; rfl)); apply of_c (fun c => typeB c.toNat) 136 (fun c H K h => typeB_c _ H K h) 64 (by decide); refine qr ?_; refine s_nil (hK _ _ ?_); clear hK K; apply AWp_ret)
  exact h
theorem cut_c (l sep : List UInt8) (hl : l.length < 4294967281) (H : AHeap) (K : AV → AHeap → Prop) (h : K (.tup [.s (Lib.cut l sep).1, .s (Lib.cut l sep).2.1, .v (.bool (Lib.cut l sep).2.2)]) H) : ACall X 169 [.s l, .s sep] H K :=
  ACall_same (by kernel_rfl) h fun w φ xs hr hx => by
    obtain ⟨a, b, rfl, rfl, rfl⟩ := vrs_ss hx
    obtain ⟨⟨m, hm, _⟩, _⟩ := hr.env
    exact ⟨_, .tup (.cons (vr_str _) (.cons (vr_str _) (.cons (.v _) .nil))), Any.strings_Cut Tryz.lays145 a b m w (by simpa using hl) hm⟩

def idCut (sign l : List UInt8) : Option (List UInt8 × List UInt8) :=
  let rest := if hasPre l sign then l.drop sign.length else l
  let c := Lib.cut rest [58]
  if hasPre l sign && c.2.2 && isLocal c.1 && isServer c.2.1 then some (c.1, c.2.1) else none
def idParts (sign l : List UInt8) : AV := match idCut sign l with | some (a, b) => .tup [.s a, .s b, .v (.bool true)] | none => .tup [.s [], .s [], .v (.bool false)]
theorem idcut_c (sign l : List UInt8) (hl : l.length < 4294967281) (H : AHeap) (K : AV → AHeap → Prop)
    (h : K (idParts sign l) H) : ACall X 157 [.s sign, .s l] H K := by
  have hr : (if hasPre l sign then l.drop sign.length else l).length < 4294967281 := by
    split
    · rw [List.length_drop]; omega
    · exact hl
  generalize hc : Lib.cut (if hasPre l sign then l.drop sign.length else l) [58] = c
  obtain ⟨c1, c2, c3⟩ := c
  refine ACall_intro Tryz.func157 rfl (by kernel_rfl) (by rw [Tryz.ntmps157]; simp) ?_; rw [Tryz.ntmps157]; simp only [frame0, Nat.reduceAdd]
  (apply sR; intro K hK; (iterate 3 (apply s_q; decide; rfl; (simp only [go_sem, hc]; rfl))); refine s_nil (hK _ _ ?_); clear hK K; apply sR; intro K hK; (iterate 2 (apply s_q; decide; rfl; (simp only [go_sem, hc]; rfl))); apply s_call; decide; (iterate 2 (simp only [go_sem, hc]; rfl)); apply cutPrefix_c; (iterate 5 (apply s_q; decide; rfl; (simp only [go_sem, hc]; rfl))); refine s_nil (hK _ _ ?_); clear hK K; apply sR; intro K hK; apply s_q; decide; rfl; (simp only [go_sem, hc]; rfl); apply s_call; decide; (iterate 2 (simp only [go_sem, hc]; rfl)); apply cut_c _ _ hr; (iterate 7 (apply s_q; decide; rfl; (simp only [go_sem, hc]; rfl))); refine s_nil (hK _ _ ?_); clear hK K; apply sK; intro K hK; apply sR; intro K hK; (iterate 3 (apply s_q; decide; rfl; (simp only [go_sem, hc]; rfl))); apply s_spec; decide; rfl; rfl; (iterate 4 (simp only [go_sem, hc]; rfl)); trivial; apply s_spec; decide; rfl; rfl; (iterate 4 (simp only [go_sem, hc]; rfl)); simp [condsOk]; apply s_pick; decide; (iterate 6 (simp only [go_sem, hc]; rfl)); trivial; trivial; simp [condsOk]; apply s_q; decide; rfl; (simp only [go_sem, hc]; rfl); apply s_spec; decide; rfl; rfl; (iterate 4 (simp only [go_sem, hc]; rfl)); trivial; apply s_gpure; decide; (iterate 3 (simp only [go_sem, hc]; rfl)); simp [condsOk]; (iterate 2 (simp only [go_sem, hc]; rfl)); (apply local_c; exact ⟨rfl, rfl⟩); apply s_spec; decide; rfl; rfl; (iterate 4 (simp only [go_sem, hc]; rfl)); simp [condsOk]; apply s_pick; decide; (iterate 6 (simp only [go_sem, hc]; rfl)); trivial; trivial; simp [condsOk]; apply s_q; decide; rfl; (simp only [go_sem, hc]; rfl); apply s_spec; decide; rfl; rfl; (iterate 4 (simp only [go_sem, hc]; rfl)); trivial; apply s_gpure; decide; (iterate 3 (simp only [go_sem, hc]; rfl)); simp [condsOk]; (iterate 2 (simp only [go_sem, hc]; rfl)); (apply server_c; exact ⟨rfl, rfl⟩); apply s_spec; decide; rfl; rfl; (iterate 4 (simp only [go_sem, hc]; rfl)); simp [condsOk]; apply s_pick; decide; (iterate 6 (simp only [go_sem, hc]; rfl)); trivial; trivial; simp [condsOk]; refine s_nil (hK _ _ ?_); clear hK K)
  refine cs (fun hd => ?_) (fun hd => ?_)
  · (apply sR; intro K hK; (iterate 3 (refine qr ?_)); refine s_nil (hK _ _ ?_); clear hK K; apply AWp_ret; simp only [AThen, ABlock]; apply end_ret; rfl; simp only [AFr.get, reduceIte, Nat.reduceEqDiff])
    have e : idCut sign l = none := by
      unfold idCut
      simp only [hc]
      cases h1 : hasPre l sign <;> cases c3 <;> cases h2 : isLocal c1 <;> cases h3 : isServer c2 <;> simp_all
    unfold idParts at h
    rw [e] at h
    exact h
  · (refine AWp_skip (hK _ _ ?_); clear hK K; apply sR; intro K hK; (iterate 5 (refine qr ?_)); refine s_nil (hK _ _ ?_); clear hK K; apply AWp_ret)
    have e : idCut sign l = some (c1, c2) := by
      unfold idCut
      simp only [hc]
      cases h1 : hasPre l sign <;> cases c3 <;> cases h2 : isLocal c1 <;> cases h3 : isServer c2 <;> simp_all
    unfold idParts at h
    rw [e] at h
    exact h
theorem user_c (l : List UInt8) (hl : l.length < 4294967281) (H : AHeap) (K : AV → AHeap → Prop) (h : K (idParts [64] l) H) : ACall X 134 [.s l] H K := by
  obtain ⟨a, b, c, e⟩ : ∃ a b c, idParts [64] l = .tup [.s a, .s b, .v (.bool c)] := by
    unfold idParts; split <;> exact ⟨_, _, _, rfl⟩
  refine ACall_intro Tryz.func134 rfl (by kernel_rfl) (by rw [Tryz.ntmps134]; simp) ?_; rw [Tryz.ntmps134]; simp only [frame0, Nat.reduceAdd]
  (apply sR; intro K hK; (iterate 3 (apply s_q; decide; rfl; (simp only [go_sem, e]; rfl))); refine s_nil (hK _ _ ?_); clear hK K; apply sR; intro K hK; apply s_q; decide; rfl; (simp only [go_sem, e]; rfl); apply s_call; decide; (iterate 2 (simp only [go_sem, e]; rfl)); apply idcut_c _ _ hl; (iterate 6 (apply s_q; decide; rfl; (simp only [go_sem, e]; rfl))); refine s_nil (hK _ _ ?_); clear hK K; apply AWp_ret)
  rw [e] at h; exact h


def ValidC (V : List UInt8 → Bool) : Prop := ∀ (l : List UInt8) (H : AHeap) (K : AV → AHeap → Prop), l.length ≤ 9223372036854775807 → K (.v (.bool (V l))) H → ACall X 164 [.s l] H K
def seenMap (ks : List (List UInt8)) : List (List UInt8 × AV) := ks.map fun k => (k, .v (.bool true))
theorem kfind_seen (k : List UInt8) : ∀ ks : List (List UInt8), kfind k (seenMap ks) = if k ∈ ks then some (.v (.bool true)) else none
  | [] => rfl
  | a :: ks => by
    have ih := kfind_seen k ks
    simp only [seenMap, List.map_cons, kfind, List.mem_cons] at ih ⊢
    by_cases e : a = k
    · subst e; simp
    · rw [if_neg e, ih]
      have : ¬ k = a := fun h => e h.symm
      simp [this]
theorem kput_seen {k : List UInt8} : ∀ {ks : List (List UInt8)}, k ∉ ks → kput k (.v (.bool true)) (seenMap ks) = seenMap (ks ++ [k])
  | [], _ => rfl
  | a :: ks, h => by
    have ih := kput_seen (k := k) (ks := ks) (fun hm => h (by simp [hm]))
    have e : ¬ a = k := fun e => h (by simp [e])
    simp only [seenMap, List.map_cons, kput, List.cons_append] at ih ⊢
    rw [if_neg e, ih]
theorem named_c {V : List UInt8 → Bool} (hV : ValidC V) (t : Bool) (ks : List (List UInt8)) (hl : ks.length ≤ 4611686018427387904) (hkl : ∀ x ∈ ks, x.length ≤ 9223372036854775807) (H : AHeap) (Kc : AV → AHeap → Prop) (h : Kc (.v (.bool (namedB V ks))) H) : ACall X 165 [.sl t (ks.map strCells)] H Kc := by
  refine ACall.drop ?_
  refine ACall_intro Tryz.func165 rfl (by kernel_rfl) (by rw [Tryz.ntmps165]; simp) ?_; rw [Tryz.ntmps165]; simp only [frame0, Nat.reduceAdd]
  (apply sR; intro K hK; refine qr ?_; refine s_nil (hK _ _ ?_); clear hK K; apply sR; intro K hK; apply s_smap; decide; exact mp_173; intro b hb; refine qr ?_; refine s_nil (hK _ _ ?_); clear hK K; apply sK; intro K hK; apply sR; intro K hK; (iterate 3 (refine qr ?_)); refine s_nil (hK _ _ ?_); clear hK K; apply AWp_block)
  obtain ⟨s, rfl⟩ : ∃ s, s = b := ⟨_, rfl⟩
  have hs := hb
  clear hb
  refine AWp_loop_s (σ := Nat) [3, 7, 8, 9] (fun i => [.v (.map (some s)), .sl t (ks.map strCells), .v (.int .i64 ks.length), .v (.int .i64 i)]) (fun i => H.put s (.smap (seenMap (ks.take i)))) (fun i => ks.length - i) (fun i => i ≤ ks.length ∧ (ks.take i).Nodup ∧ (ks.take i).all V = true) 0 ⟨Nat.zero_le _, by simp, rfl⟩ rfl rfl (fun i hi => ?_)
  simp only [List.zip_cons_cons, List.zip_nil_right]
  have hg := AHeap.get_put_same s (.smap (seenMap (ks.take i))) H
  (apply sR; intro K hK; refine qr ?_; refine s_nil (hK _ _ ?_); clear hK K; apply sK; intro K hK)
  refine cs (fun hd => ?_) (fun hd => ?_)
  · have hlt : i < ks.length := by simpa using hd
    obtain ⟨k, hm⟩ : ∃ a, ks[i]? = some a := ⟨_, List.getElem?_eq_getElem hlt⟩
    have hgk : (ks.map strCells)[i]? = some [.s k] := by rw [List.getElem?_map, hm]; rfl
    have hkf := kfind_seen k (ks.take i)
    have hk1 := hkl k (List.mem_of_getElem? hm)
    by_cases hin : k ∈ ks.take i
    · rw [if_pos hin] at hkf
      (refine AWp_skip (hK _ _ ?_); clear hK K; apply sK; intro K hK; apply AWp_block; apply sR; intro K hK; (iterate 3 (apply s_q; decide; rfl; (simp only [go_sem, hgk, hg, hkf]; rfl))); refine s_nil (hK _ _ ?_); clear hK K; apply sK; intro K hK; apply sR; intro K hK; (iterate 4 (apply s_q; decide; rfl; (simp only [go_sem, hgk, hg, hkf]; rfl))); apply s_spec; decide; rfl; rfl; (iterate 4 (simp only [go_sem, hgk, hg, hkf]; rfl)); trivial; apply s_gpure; decide; (iterate 3 (simp only [go_sem, hgk, hg, hkf]; rfl)); trivial; (iterate 2 (simp only [go_sem, hgk, hg, hkf]; rfl)); (apply hV _ _ _ hk1; exact ⟨rfl, rfl⟩); apply s_spec; decide; rfl; rfl; (iterate 4 (simp only [go_sem, hgk, hg, hkf]; rfl)); trivial; apply s_pick; decide; (iterate 6 (simp only [go_sem, hgk, hg, hkf]; rfl)); trivial; trivial; trivial; refine s_nil (hK _ _ ?_); clear hK K)
      refine cs (fun hq => ?_) (fun hq => ?_)
      · (apply sR; intro K hK; refine qr ?_; refine s_nil (hK _ _ ?_); clear hK K; apply AWp_ret; simp only [AThen, ABlock]; apply end_ret; rfl; simp only [AFr.get, reduceIte, Nat.reduceEqDiff])
        refine ⟨H, Ext.fresh hs, finB h ?_⟩
        have : ¬ ks.Nodup := fun hn => by
          have h2 : (ks.take (i + 1)).Nodup := hn.sublist (List.take_sublist _ _)
          rw [List.take_add_one, hm] at h2
          have h3 := (List.nodup_append.1 h2).2.2 k hin k (by simp)
          exact h3 rfl
        rw [namedB, decide_eq_false this]; rfl
      · simp at hq
    · rw [if_neg hin] at hkf
      (refine AWp_skip (hK _ _ ?_); clear hK K; apply sK; intro K hK; apply AWp_block; apply sR; intro K hK; (iterate 3 (apply s_q; decide; rfl; (simp only [go_sem, hgk, hg, hkf]; rfl))); refine s_nil (hK _ _ ?_); clear hK K; apply sK; intro K hK; apply sR; intro K hK; (iterate 4 (apply s_q; decide; rfl; (simp only [go_sem, hgk, hg, hkf]; rfl))); apply s_spec; decide; rfl; rfl; (iterate 4 (simp only [go_sem, hgk, hg, hkf]; rfl)); trivial; apply s_gpure; decide; (iterate 3 (simp only [go_sem, hgk, hg, hkf]; rfl)); trivial; (iterate 2 (simp only [go_sem, hgk, hg, hkf]; rfl)); (apply hV _ _ _ hk1; exact ⟨rfl, rfl⟩); apply s_spec; decide; rfl; rfl; (iterate 4 (simp only [go_sem, hgk, hg, hkf]; rfl)); trivial; apply s_pick; decide; (iterate 6 (simp only [go_sem, hgk, hg, hkf]; rfl)); trivial; trivial; trivial; refine s_nil (hK _ _ ?_); clear hK K)
      refine cs (fun hq => ?_) (fun hq => ?_)
      · (apply sR; intro K hK; refine qr ?_; refine s_nil (hK _ _ ?_); clear hK K; apply AWp_ret; simp only [AThen, ABlock]; apply end_ret; rfl; simp only [AFr.get, reduceIte, Nat.reduceEqDiff])
        refine ⟨H, Ext.fresh hs, finB h ?_⟩
        rw [namedB, not_all hm (by simpa using hq), Bool.and_false]
      · have hv : V k = true := by simpa using hq
        have hkp := kput_seen hin
        (refine AWp_skip (hK _ _ ?_); clear hK K; apply s_region; (iterate 2 (apply s_q; decide; rfl; (simp only [go_sem, hg, hkp]; rfl))); apply s_mapput; (iterate 4 (simp only [go_sem, hg, hkp]; rfl)); refine s_nil (hK _ _ ?_); clear hK K; apply s_region; (iterate 2 (apply s_q; decide; rfl; (simp only [go_sem, hg, hkp]; rfl))); apply s_nil; simp only [AThen, ABlock])
        refine ⟨i + 1, by omega, ⟨by omega, ?_, ?_⟩, ?_, ?_⟩
        · rw [List.take_add_one, hm]
          refine List.nodup_append.2 ⟨hi.2.1, by simp, fun a ha c hc => ?_⟩
          simp at hc; subst hc
          rintro rfl; exact hin ha
        · rw [all_take hm hi.2.2]; exact hv
        · simp only [getAll, List.map, AFr.get, reduceIte, Nat.reduceEqDiff]
          rw [wrapS hlt (by omega)]; try rfl
        · rw [List.take_add_one, hm]; try rfl
  · have hge : ks.length ≤ i := by simpa using hd
    (apply AWp_exit; simp only [AThen, ABlock, reduceIte, Nat.reduceEqDiff]; clear hK K; refine hK _ _ ?_; clear hK K; apply sR; intro K hK; refine qr ?_; refine s_nil (hK _ _ ?_); clear hK K; apply AWp_ret)
    refine ⟨H, Ext.fresh hs, finB h ?_⟩
    have h1 := hi.2.1
    have h2 := hi.2.2
    rw [List.take_of_length_le hge] at h1 h2
    rw [namedB, decide_eq_true h1, h2]; rfl

set_option maxHeartbeats 4000000 in
theorem shaped_c {V : List UInt8 → Bool} (hV : ValidC V) (j : J) (hl : j.keys.length ≤ 4611686018427387904 ∧ j.list.length < 4611686018427387904) (ht : j.text.length ≤ 9223372036854775807) (hkl : ∀ x ∈ j.keys, x.length ≤ 9223372036854775807) (H : AHeap) (Kc : AV → AHeap → Prop) (h : Kc (.v (.bool (shapedB V j))) H) : ACall X 153 [.agg j.cells] H Kc := by
  refine ACall.drop ?_
  rw [J.cells_eq]
  have hemp : decide (IntKind.i64.wrap ((j.keys.length : Int) + j.list.length) = 0) = (decide (j.keys = []) && decide (j.list = [])) := by
    rw [wrap64 (by omega)]
    cases hk : j.keys with
    | nil =>
      cases hll : j.list with
      | nil => simp
      | cons a l => simp; omega
    | cons a l => simp; omega
  refine ACall_intro Tryz.func153 rfl (by kernel_rfl) (by rw [Tryz.ntmps153]; simp) ?_; rw [Tryz.ntmps153]; simp only [frame0, Nat.reduceAdd]
  (apply sR; intro K hK; apply s_box; decide; (iterate 2 (simp only [go_sem]; rfl)); intro b hb; refine qr ?_; refine s_nil (hK _ _ ?_); clear hK K; apply sR; intro K hK; (iterate 9 (refine qr ?_)); refine s_nil (hK _ _ ?_); clear hK K; apply sK; intro K hK; apply sR; intro K hK; (iterate 2 (refine qr ?_)); refine s_nil (hK _ _ ?_); clear hK K; apply AWp_block; apply sR; intro K hK; (iterate 2 (refine qr ?_)); refine s_nil (hK _ _ ?_); clear hK K)
  obtain ⟨s, rfl⟩ : ∃ s, s = b := ⟨_, rfl⟩
  have hs := hb
  clear hb
  have g := AHeap.get_put_same s (.box 25 [.v (.int .i64 j.kind), .v (.int .i64 j.int), .s j.text, .sl false (j.keys.map strCells), .sl false (j.list.map J.cells)]) H
  have hE := Ext.fresh (o := .box 25 [.v (.int .i64 j.kind), .v (.int .i64 j.int), .s j.text, .sl false (j.keys.map strCells), .sl false (j.list.map J.cells)]) hs
  generalize H.put s (.box 25 [.v (.int .i64 j.kind), .v (.int .i64 j.int), .s j.text, .sl false (j.keys.map strCells), .sl false (j.list.map J.cells)]) = M at g hE ⊢
  have hfin : ∀ b : Bool, b = shapedB V j → ∃ L', Ext L' M ∧ Kc (.v (.bool b)) L' := fun b hb => ⟨H, hE, by rw [hb]; exact h⟩
  skip
  refine cs (fun h0 => ?_) (fun h0 => ?_)
  · (apply sR; intro K hK; (iterate 2 (apply s_q; decide; rfl; (simp only [go_sem, g]; rfl))); apply s_spec; decide; rfl; rfl; (iterate 4 (simp only [go_sem, g]; rfl)); trivial; (iterate 2 (apply s_spec; decide; rfl; rfl; (iterate 4 (simp only [go_sem, g]; rfl)); simp [condsOk])); apply s_pick; decide; (iterate 6 (simp only [go_sem, g]; rfl)); trivial; simp [condsOk]; trivial; apply s_q; decide; rfl; (simp only [go_sem, g]; rfl); apply s_spec; decide; rfl; rfl; (iterate 4 (simp only [go_sem, g]; rfl)); trivial; (iterate 2 (apply s_spec; decide; rfl; rfl; (iterate 4 (simp only [go_sem, g]; rfl)); simp [condsOk])); apply s_pick; decide; (iterate 6 (simp only [go_sem, g]; rfl)); trivial; simp [condsOk]; trivial; apply s_q; decide; rfl; (simp only [go_sem, g]; rfl); refine s_nil (hK _ _ ?_); clear hK K; apply AWp_ret; simp only [AThen, ABlock]; apply end_ret; rfl; simp only [AFr.get, reduceIte, Nat.reduceEqDiff])
    have h0 : j.kind = 0 := by simpa using h0
    refine hfin _ ?_
    try rw [hemp]
    simp [shapedB, h0, Bool.and_assoc]
  have h0 : ¬ j.kind = 0 := by simpa using h0
  (apply sR; intro K hK; (iterate 2 (refine qr ?_)); refine s_nil (hK _ _ ?_); clear hK K)
  refine cs (fun h1 => ?_) (fun h1 => ?_)
  · (apply sR; intro K hK; (iterate 2 (apply s_q; decide; rfl; (simp only [go_sem, g]; rfl))); apply s_spec; decide; rfl; rfl; (iterate 4 (simp only [go_sem, g]; rfl)); trivial; (iterate 2 (apply s_spec; decide; rfl; rfl; (iterate 4 (simp only [go_sem, g]; rfl)); simp [condsOk])); apply s_pick; decide; (iterate 6 (simp only [go_sem, g]; rfl)); trivial; simp [condsOk]; trivial; apply s_q; decide; rfl; (simp only [go_sem, g]; rfl); apply s_spec; decide; rfl; rfl; (iterate 4 (simp only [go_sem, g]; rfl)); trivial; (iterate 3 (apply s_spec; decide; rfl; rfl; (iterate 4 (simp only [go_sem, g]; rfl)); simp [condsOk])); apply s_spec; decide; rfl; rfl; (iterate 4 (simp only [go_sem, g]; rfl)); trivial; (iterate 2 (apply s_spec; decide; rfl; rfl; (iterate 4 (simp only [go_sem, g]; rfl)); simp [condsOk])); apply s_pickg; decide; (iterate 8 (simp only [go_sem, g]; rfl)); simp [condsOk]; trivial; simp [condsOk]; apply s_pick; decide; (iterate 6 (simp only [go_sem, g]; rfl)); trivial; simp [condsOk]; trivial; apply s_q; decide; rfl; (simp only [go_sem, g]; rfl); refine s_nil (hK _ _ ?_); clear hK K; apply AWp_ret; simp only [AThen, ABlock]; apply end_ret; rfl; simp only [AFr.get, reduceIte, Nat.reduceEqDiff])
    have h1 : j.kind = 1 := by simpa using h1
    refine hfin _ ?_
    try rw [hemp]
    simp [shapedB, h1, len0, Bool.and_assoc]
  have h1 : ¬ j.kind = 1 := by simpa using h1
  (apply sR; intro K hK; (iterate 2 (refine qr ?_)); refine s_nil (hK _ _ ?_); clear hK K)
  refine cs (fun h2 => ?_) (fun h2 => ?_)
  · (apply sR; intro K hK; (iterate 2 (apply s_q; decide; rfl; (simp only [go_sem, g]; rfl))); apply s_spec; decide; rfl; rfl; (iterate 4 (simp only [go_sem, g]; rfl)); trivial; (iterate 2 (apply s_spec; decide; rfl; rfl; (iterate 4 (simp only [go_sem, g]; rfl)); simp [condsOk])); apply s_pick; decide; (iterate 6 (simp only [go_sem, g]; rfl)); trivial; simp [condsOk]; trivial; apply s_q; decide; rfl; (simp only [go_sem, g]; rfl); apply s_spec; decide; rfl; rfl; (iterate 4 (simp only [go_sem, g]; rfl)); trivial; (iterate 2 (apply s_spec; decide; rfl; rfl; (iterate 4 (simp only [go_sem, g]; rfl)); simp [condsOk])); apply s_pick; decide; (iterate 6 (simp only [go_sem, g]; rfl)); trivial; simp [condsOk]; trivial; apply s_q; decide; rfl; (simp only [go_sem, g]; rfl); apply s_spec; decide; rfl; rfl; (iterate 4 (simp only [go_sem, g]; rfl)); trivial; (iterate 2 (apply s_spec; decide; rfl; rfl; (iterate 4 (simp only [go_sem, g]; rfl)); simp [condsOk])); apply s_pick; decide; (iterate 6 (simp only [go_sem, g]; rfl)); trivial; simp [condsOk]; trivial; apply s_q; decide; rfl; (simp only [go_sem, g]; rfl); refine s_nil (hK _ _ ?_); clear hK K; apply AWp_ret; simp only [AThen, ABlock]; apply end_ret; rfl; simp only [AFr.get, reduceIte, Nat.reduceEqDiff])
    have h2 : j.kind = 2 := by simpa using h2
    refine hfin _ ?_
    try rw [hemp]
    simp [shapedB, h2, len0, Bool.and_assoc]
  have h2 : ¬ j.kind = 2 := by simpa using h2
  (apply sR; intro K hK; (iterate 2 (refine qr ?_)); refine s_nil (hK _ _ ?_); clear hK K)
  refine cs (fun h3 => ?_) (fun h3 => ?_)
  · (apply sR; intro K hK; (iterate 2 (apply s_q; decide; rfl; (simp only [go_sem, g]; rfl))); apply s_spec; decide; rfl; rfl; (iterate 4 (simp only [go_sem, g]; rfl)); trivial; (iterate 2 (apply s_spec; decide; rfl; rfl; (iterate 4 (simp only [go_sem, g]; rfl)); simp [condsOk])); apply s_pick; decide; (iterate 6 (simp only [go_sem, g]; rfl)); trivial; simp [condsOk]; trivial; apply s_q; decide; rfl; (simp only [go_sem, g]; rfl); apply s_spec; decide; rfl; rfl; (iterate 4 (simp only [go_sem, g]; rfl)); trivial; apply s_spec; decide; rfl; rfl; (iterate 4 (simp only [go_sem, g]; rfl)); simp [condsOk]; apply s_gpure; decide; (iterate 3 (simp only [go_sem, g]; rfl)); simp [condsOk]; (iterate 2 (simp only [go_sem, g]; rfl)); (apply hV _ _ _ ht; exact ⟨rfl, rfl⟩); apply s_pick; decide; (iterate 6 (simp only [go_sem, g]; rfl)); trivial; simp [condsOk]; trivial; apply s_q; decide; rfl; (simp only [go_sem, g]; rfl); refine s_nil (hK _ _ ?_); clear hK K; apply AWp_ret; simp only [AThen, ABlock]; apply end_ret; rfl; simp only [AFr.get, reduceIte, Nat.reduceEqDiff])
    have h3 : j.kind = 3 := by simpa using h3
    refine hfin _ ?_
    try rw [hemp]
    simp [shapedB, h3, len0, Bool.and_assoc]
  have h3 : ¬ j.kind = 3 := by simpa using h3
  (apply sR; intro K hK; (iterate 2 (refine qr ?_)); refine s_nil (hK _ _ ?_); clear hK K)
  refine cs (fun h4 => ?_) (fun h4 => ?_)
  · (apply sR; intro K hK; (iterate 5 (apply s_q; decide; rfl; (simp only [go_sem, g]; rfl))); apply s_spec; decide; rfl; rfl; (iterate 4 (simp only [go_sem, g]; rfl)); trivial; (iterate 2 (apply s_spec; decide; rfl; rfl; (iterate 4 (simp only [go_sem, g]; rfl)); simp [condsOk])); apply s_pick; decide; (iterate 6 (simp only [go_sem, g]; rfl)); trivial; simp [condsOk]; trivial; apply s_q; decide; rfl; (simp only [go_sem, g]; rfl); apply s_spec; decide; rfl; rfl; (iterate 4 (simp only [go_sem, g]; rfl)); trivial; (iterate 2 (apply s_spec; decide; rfl; rfl; (iterate 4 (simp only [go_sem, g]; rfl)); simp [condsOk])); apply s_pick; decide; (iterate 6 (simp only [go_sem, g]; rfl)); trivial; simp [condsOk]; trivial; apply s_q; decide; rfl; (simp only [go_sem, g]; rfl); refine s_nil (hK _ _ ?_); clear hK K; apply AWp_ret; simp only [AThen, ABlock]; apply end_ret; rfl; simp only [AFr.get, reduceIte, Nat.reduceEqDiff])
    have h4 : j.kind = 4 := by simpa using h4
    refine hfin _ ?_
    try rw [hemp]
    simp [shapedB, h4, len0, Bool.and_assoc]
  have h4 : ¬ j.kind = 4 := by simpa using h4
  (apply sR; intro K hK; (iterate 2 (refine qr ?_)); refine s_nil (hK _ _ ?_); clear hK K)
  refine cs (fun h5 => ?_) (fun h5 => ?_)
  · (apply sR; intro K hK; (iterate 8 (apply s_q; decide; rfl; (simp only [go_sem, g]; rfl))); apply s_spec; decide; rfl; rfl; (iterate 4 (simp only [go_sem, g]; rfl)); trivial; (iterate 2 (apply s_spec; decide; rfl; rfl; (iterate 4 (simp only [go_sem, g]; rfl)); simp [condsOk])); apply s_pick; decide; (iterate 6 (simp only [go_sem, g]; rfl)); trivial; simp [condsOk]; trivial; apply s_q; decide; rfl; (simp only [go_sem, g]; rfl); apply s_spec; decide; rfl; rfl; (iterate 4 (simp only [go_sem, g]; rfl)); trivial; (iterate 2 (apply s_spec; decide; rfl; rfl; (iterate 4 (simp only [go_sem, g]; rfl)); simp [condsOk])); apply s_pick; decide; (iterate 6 (simp only [go_sem, g]; rfl)); trivial; simp [condsOk]; trivial; apply s_q; decide; rfl; (simp only [go_sem, g]; rfl); apply s_spec; decide; rfl; rfl; (iterate 4 (simp only [go_sem, g]; rfl)); trivial; apply s_spec; decide; rfl; rfl; (iterate 4 (simp only [go_sem, g]; rfl)); simp [condsOk]; apply s_gpure; decide; (iterate 3 (simp only [go_sem, g]; rfl)); simp [condsOk]; (iterate 2 (simp only [go_sem, g]; rfl)); (apply named_c hV false j.keys hl.1 hkl; exact ⟨rfl, rfl⟩); apply s_pick; decide; (iterate 6 (simp only [go_sem, g]; rfl)); trivial; simp [condsOk]; trivial; apply s_q; decide; rfl; (simp only [go_sem, g]; rfl); refine s_nil (hK _ _ ?_); clear hK K; apply AWp_ret; simp only [AThen, ABlock]; apply end_ret; rfl; simp only [AFr.get, reduceIte, Nat.reduceEqDiff])
    have h5 : j.kind = 5 := by simpa using h5
    refine hfin _ ?_
    have e : decide ((j.keys.length : Int) = j.list.length) = decide (j.keys.length = j.list.length) := decide_eq_decide.2 Int.natCast_inj
    rw [e]
    simp [shapedB, h5, Bool.and_assoc]
  have h5 : ¬ j.kind = 5 := by simpa using h5
  (refine AWp_skip (hK _ _ ?_); clear hK K; apply sR; intro K hK; refine qr ?_; refine s_nil (hK _ _ ?_); clear hK K; apply AWp_ret)
  exact hfin _ (by simp [shapedB, h0, h1, h2, h3, h4, h5])
end Go.Proofs.YtcpfgjfiacfmoaaGreatDoor
