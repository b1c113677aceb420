/-
  Pasts as values. Few, Right, In, same. Contracts.
-/
import Derived.Test.YtcpfgjfiacfmoaaGreatDoorPPart4
import Derived.Test.YtcpfgjfiacfmoaaGreatDoorPAL3
import Derived.Test.YtcpfgjfiacfmoaaGreatDoorPAL4
set_option linter.unusedSimpArgs false
set_option linter.unusedVariables false
set_option maxRecDepth 100000
namespace Go.Proofs.YtcpfgjfiacfmoaaGreatDoor
open Go Go.AL
attribute [local irreducible] AOps AWp SOps AE AT ACall AApp

structure Pa where
  names : List (List UInt8)
  events : List Ev
  prev : List (List Int)
  auth : List (List Int)
  denied : List Bool
def bolCells (b : Bool) : List AV := [.v (.bool b)]
def Pa.cells (p : Pa) : List AV := [.sl false (p.names.map strCells), .sl false (p.events.map Ev.cells), .sl false (p.prev.map rowCells), .sl false (p.auth.map rowCells), .sl false (p.denied.map bolCells)]
abbrev paBox (p : Pa) : AObj := .box 35 p.cells
theorem snap_ints (b sz : Nat) (es : List (List AV)) (l : List Int) : AV.snapss b sz es (l.map intCells) = l.map intCells := snapss_map (fun _ => rfl) l
theorem snap_rows (b sz : Nat) (es : List (List AV)) (l : List (List Int)) : AV.snapss b sz es (l.map rowCells) = l.map rowCells := snapss_map (fun r => by simp only [rowCells, AV.snaps, AV.snap, snap_ints]) l
theorem snap_bools (b sz : Nat) (es : List (List AV)) (l : List Bool) : AV.snapss b sz es (l.map bolCells) = l.map bolCells := snapss_map (fun _ => rfl) l
theorem snap_evs (b sz : Nat) (es : List (List AV)) (l : List Ev) : AV.snapss b sz es (l.map Ev.cells) = l.map Ev.cells := snapss_map (fun e => e.snap b sz es) l
theorem Pa.snap (b sz : Nat) (es : List (List AV)) (p : Pa) : AV.snaps b sz es p.cells = p.cells := by
  simp only [Pa.cells, AV.snaps, AV.snap, snap_strs, snap_evs, snap_rows, snap_bools]
theorem loosen_ints (l : List Int) : AV.loosenss (l.map intCells) = l.map intCells := loosenss_map (fun _ => rfl) l
structure Pa.Wide (p : Pa) : Prop where
  nm : p.names.length ≤ 4611686018427387904
  ev : p.events.length ≤ 4611686018427387904
  pr : p.prev.length ≤ 4611686018427387904
  au : p.auth.length ≤ 4611686018427387904
  de : p.denied.length ≤ 4611686018427387904
  evs : ∀ e ∈ p.events, e.Wide
  prs : ∀ r ∈ p.prev, r.length ≤ 4611686018427387904
  aus : ∀ r ∈ p.auth, r.length ≤ 4611686018427387904
  nms : ∀ r ∈ p.names, r.length ≤ 4611686018427387904
structure Pa.Few (p : Pa) : Prop where
  ev : p.events.length ≤ 25
  nm : p.names.length ≤ 30
  pr : p.prev.length ≤ 30
  au : p.auth.length ≤ 30
  de : p.denied.length ≤ 30
  sml : ∀ e ∈ p.events, Sml e.content
  prs : ∀ r ∈ p.prev, r.length ≤ 30
  aus : ∀ r ∈ p.auth, r.length ≤ 30
theorem range_all {p : Nat → Bool} (i : Nat) : (List.range (i + 1)).all p = ((List.range i).all p && p i) := by
  rw [List.range_succ, List.all_append]; simp
theorem range_no {p : Nat → Bool} {n i : Nat} (hi : i < n) (h : p i = false) : (List.range n).all p = false := by
  rw [List.all_eq_false]
  exact ⟨i, List.mem_range.2 hi, by rw [h]; simp⟩
def rowsB (l : List (List Int)) : Bool := l.all fun r => decide (r.length ≤ 30)
theorem rows_c (t : Bool) (l : List (List Int)) (hl : l.length ≤ 4611686018427387904) (hk : ∀ r ∈ l, r.length ≤ 4611686018427387904) (H : AHeap) (K : AV → AHeap → Prop) (h : K (.v (.bool (rowsB l))) H) : ACall X 36 [.sl t (l.map rowCells)] H K := by
  refine ACall_intro Tryz.func36 rfl (by kernel_rfl) (by rw [Tryz.ntmps36]; simp) ?_; rw [Tryz.ntmps36]; simp only [frame0, Nat.reduceAdd]
  (apply sR; intro K hK; refine qr ?_; refine s_nil (hK _ _ ?_); clear hK K; apply sK; intro K hK; apply sR; intro K hK; refine qr ?_; refine s_nil (hK _ _ ?_); clear hK K; apply AWp_block)
  refine AWp_loop_s (σ := Nat) [0, 3] (fun i => [.sl t (l.map rowCells), .v (.int .i64 i)]) (fun _ => H) (fun i => l.length - i) (fun i => i ≤ l.length ∧ (l.take i).all (fun r => decide (r.length ≤ 30)) = true) 0 ⟨Nat.zero_le _, rfl⟩ rfl rfl (fun i hi => ?_)
  simp only [List.zip_cons_cons, List.zip_nil_right]
  (apply sK; intro K hK; apply sR; intro K hK; (iterate 4 (refine qr ?_)); refine s_nil (hK _ _ ?_); clear hK K)
  refine cs (fun hd => ?_) (fun hd => ?_)
  · have hlt : i < l.length := by simpa using hd
    obtain ⟨c, hm⟩ := gete hlt
    have hgc := row_at hm
    (refine AWp_skip (hK _ _ ?_); clear hK K; apply sK; intro K hK; apply AWp_block; apply sR; intro K hK; (iterate 6 (apply s_q; decide; rfl; (simp only [go_sem, hgc]; rfl))); refine s_nil (hK _ _ ?_); clear hK K)
    refine cs (fun he => ?_) (fun he => ?_)
    · (apply sR; intro K hK; refine qr ?_; refine s_nil (hK _ _ ?_); clear hK K; apply AWp_ret; simp only [AThen, ABlock]; apply end_ret; rfl; simp only [AFr.get, reduceIte, Nat.reduceEqDiff])
      refine finB h ?_
      rw [rowsB, not_all hm (by simp at he; simp; omega)]
    · (refine AWp_skip (hK _ _ ?_); clear hK K; apply s_region; (iterate 3 (refine qr ?_)); apply s_nil; simp only [AThen, ABlock])
      refine ⟨i + 1, by omega, ⟨by omega, ?_⟩, ?_, by trivial⟩
      · rw [all_take hm hi.2]
        simp at he; simp; omega
      · simp only [getAll, List.map, AFr.get, reduceIte, Nat.reduceEqDiff]
        rw [wrapS hlt (by omega)]; try rfl
  · have hge : l.length ≤ i := by simpa using hd
    (apply AWp_exit; simp only [AThen, ABlock, reduceIte, Nat.reduceEqDiff]; clear hK K; refine hK _ _ ?_; clear hK K; apply sR; intro K hK; refine qr ?_; refine s_nil (hK _ _ ?_); clear hK K; apply AWp_ret)
    refine finB h ?_
    rw [rowsB, ← hi.2, List.take_of_length_le hge]
set_option maxHeartbeats 4000000 in
theorem few12_c (p : Pa) (hw : p.Wide) (H : AHeap) (K : AV → AHeap → Prop) (h : ∀ b, (b = true → p.Few) → K (.v (.bool b)) H) : ACall X 15 [.agg p.cells] H K := by
  obtain ⟨w1, w2, w3, w4, w5, w6, w7, w8, w9⟩ := hw
  refine ACall.drop ?_
  rw [Pa.cells]
  refine ACall_intro Tryz.func15 rfl (by kernel_rfl) (by rw [Tryz.ntmps15]; simp) ?_; rw [Tryz.ntmps15]; simp only [frame0, Nat.reduceAdd]
  apply sR; intro K hK
  apply s_box; decide; exact (by simp only [go_sem]; try rfl); exact (by simp only [go_sem]; try rfl); intro q hq
  (refine qr ?_; refine s_nil (hK _ _ ?_); clear hK K; apply sK; intro K hK; apply sR; intro K hK; (iterate 5 (refine qr ?_)); refine sp ?_; (iterate 3 (refine sp ?_)); apply s_pick; decide; (iterate 6 (simp only [go_sem]; rfl)); trivial; trivial; simp [condsOk]; refine qr ?_; refine sp ?_; (iterate 3 (refine sp ?_)); apply s_pick; decide; (iterate 6 (simp only [go_sem]; rfl)); trivial; trivial; simp [condsOk]; refine qr ?_; refine sp ?_; (iterate 3 (refine sp ?_)); apply s_pick; decide; (iterate 6 (simp only [go_sem]; rfl)); trivial; trivial; simp [condsOk]; refine qr ?_; refine sp ?_; (iterate 3 (refine sp ?_)); apply s_pick; decide; (iterate 6 (simp only [go_sem]; rfl)); trivial; trivial; simp [condsOk]; refine s_nil (hK _ _ ?_); clear hK K)
  generalize hgenq : AHeap.put q _ H = M; obtain ⟨g1, hextq⟩ := gen_ex hgenq hq; have hE := hextq; clear hextq hgenq
  skip
  refine cs (fun hc => ?_) (fun hc => ?_)
  · (apply sR; intro K hK; refine qr ?_; refine s_nil (hK _ _ ?_); clear hK K; apply AWp_ret; simp only [AThen, ABlock]; apply end_ret; rfl; simp only [AFr.get, reduceIte, Nat.reduceEqDiff])
    exact ⟨H, hE, h _ (fun h => by cases h)⟩
  have hlen : p.events.length ≤ 25 ∧ p.names.length ≤ 30 ∧ p.prev.length ≤ 30 ∧ p.auth.length ≤ 30 ∧ p.denied.length ≤ 30 := by simp at hc; omega
  obtain ⟨f1, f2, f3, f4, f5⟩ := hlen
  (refine AWp_skip (hK _ _ ?_); clear hK K; apply sK; intro K hK; apply sR; intro K hK; refine qr ?_; refine s_nil (hK _ _ ?_); clear hK K; apply AWp_block)
  refine AWp_loop_s (σ := Nat) [1, 3] (fun i => [ptrTo q, .v (.int .i64 i)]) (fun _ => M) (fun i => p.events.length - i) (fun i => i ≤ p.events.length ∧ ∀ e ∈ p.events.take i, Sml e.content) 0 ⟨Nat.zero_le _, by simp⟩ rfl rfl (fun i hi => ?_)
  simp only [List.zip_cons_cons, List.zip_nil_right]
  obtain ⟨hi, hsm⟩ := hi
  (apply sK; intro K hK; apply sR; intro K hK; (iterate 5 (apply s_q; decide; rfl; (simp only [go_sem, g1]; rfl))); refine s_nil (hK _ _ ?_); clear hK K)
  refine cs (fun hd => ?_) (fun hd => ?_)
  · have hlt : i < p.events.length := by simpa using hd
    obtain ⟨e, he⟩ := gete hlt
    have hge := ev_at he
    have hem := w6 e (List.mem_of_getElem? he)
    (refine AWp_skip (hK _ _ ?_); clear hK K; apply sK; intro K hK; apply AWp_block; apply sR; intro K hK; (iterate 5 (apply s_q; decide; rfl; (simp only [go_sem, g1, hge]; rfl))); apply s_call; decide; (iterate 2 (simp only [go_sem, g1, hge]; rfl)); refine few05_c e hem.1 hem.2.1 hem.2.2.1 hem.2.2.2.1 _ _ (fun b hb => ?_); apply s_q; decide; rfl; (simp only [go_sem, g1, hge]; rfl); refine s_nil (hK _ _ ?_); clear hK K)
    refine cs (fun he2 => ?_) (fun he2 => ?_)
    · (apply sR; intro K hK; refine qr ?_; refine s_nil (hK _ _ ?_); clear hK K; apply AWp_ret; simp only [AThen, ABlock]; apply end_ret; rfl; simp only [AFr.get, reduceIte, Nat.reduceEqDiff])
      exact ⟨H, hE, h _ (fun h => by cases h)⟩
    · have hs := hb (by simpa using he2)
      (refine AWp_skip (hK _ _ ?_); clear hK K; apply s_region; (iterate 3 (refine qr ?_)); apply s_nil; simp only [AThen, ABlock])
      refine ⟨i + 1, by omega, ⟨by omega, fun x hx => by
        rcases take_mem_succ he hx with hx | rfl
        · exact hsm x hx
        · exact hs⟩, ?_, by trivial⟩
      simp only [getAll, List.map, AFr.get, reduceIte, Nat.reduceEqDiff]
      rw [wrapS hlt (by omega)]; try rfl
  have hall : ∀ e ∈ p.events, Sml e.content := fun e he => hsm e (by rw [List.take_of_length_le (by simpa using hd)]; exact he)
  (apply AWp_exit; simp only [AThen, ABlock, reduceIte, Nat.reduceEqDiff]; clear hK K; refine hK _ _ ?_; clear hK K; apply sK; intro K hK; apply sR; intro K hK; refine qr ?_; refine s_nil (hK _ _ ?_); clear hK K; apply AWp_block)
  refine AWp_loop_s (σ := Nat) [1, 4] (fun i => [ptrTo q, .v (.int .i64 i)]) (fun _ => M) (fun i => p.names.length - i) (fun i => i ≤ p.names.length) 0 (Nat.zero_le _) rfl rfl (fun i hi => ?_)
  simp only [List.zip_cons_cons, List.zip_nil_right]
  (apply sK; intro K hK; apply sR; intro K hK; (iterate 5 (apply s_q; decide; rfl; (simp only [go_sem, g1]; rfl))); refine s_nil (hK _ _ ?_); clear hK K)
  refine cs (fun hd2 => ?_) (fun hd2 => ?_)
  · have hlt : i < p.names.length := by simpa using hd2
    obtain ⟨ky, hky⟩ := gete hlt
    have hgk := estr_at hky
    (refine AWp_skip (hK _ _ ?_); clear hK K; apply sK; intro K hK; apply AWp_block; apply sR; intro K hK; (iterate 7 (apply s_q; decide; rfl; (simp only [go_sem, g1, hgk]; rfl))); refine s_nil (hK _ _ ?_); clear hK K)
    refine cs (fun he => ?_) (fun he => ?_)
    · (apply sR; intro K hK; refine qr ?_; refine s_nil (hK _ _ ?_); clear hK K; apply AWp_ret; simp only [AThen, ABlock]; apply end_ret; rfl; simp only [AFr.get, reduceIte, Nat.reduceEqDiff])
      exact ⟨H, hE, h _ (fun h => by cases h)⟩
    · (refine AWp_skip (hK _ _ ?_); clear hK K; apply s_region; (iterate 3 (refine qr ?_)); apply s_nil; simp only [AThen, ABlock])
      refine ⟨i + 1, by omega, by omega, ?_, by trivial⟩
      simp only [getAll, List.map, AFr.get, reduceIte, Nat.reduceEqDiff]
      rw [wrapS hlt (by omega)]; try rfl
  (apply AWp_exit; simp only [AThen, ABlock, reduceIte, Nat.reduceEqDiff]; clear hK K; refine hK _ _ ?_; clear hK K; apply sR; intro K hK; (iterate 2 (apply s_q; decide; rfl; (simp only [go_sem, g1]; rfl))); apply s_call; decide; (iterate 2 (simp only [go_sem, g1]; rfl)); apply rows_c _ _ w3 w7; apply s_q; decide; rfl; (simp only [go_sem, g1]; rfl); apply s_spec; decide; rfl; rfl; (iterate 4 (simp only [go_sem, g1]; rfl)); trivial; apply s_spec; decide; rfl; rfl; (iterate 4 (simp only [go_sem, g1]; rfl)); simp [condsOk]; apply s_gpure; decide; (iterate 3 (simp only [go_sem, g1]; rfl)); simp [condsOk]; (iterate 2 (simp only [go_sem, g1]; rfl)); (apply rows_c _ _ w4 w8; exact ⟨rfl, rfl⟩); apply s_pick; decide; (iterate 6 (simp only [go_sem, g1]; rfl)); trivial; simp [condsOk]; trivial; apply s_q; decide; rfl; (simp only [go_sem, g1]; rfl); refine s_nil (hK _ _ ?_); clear hK K; apply AWp_ret)
  refine ⟨H, hE, h _ (fun hb => ?_)⟩
  have hb : rowsB p.prev = true ∧ rowsB p.auth = true := by simpa using hb
  simp only [rowsB, List.all_eq_true, decide_eq_true_eq] at hb
  exact ⟨f1, f2, f3, f4, f5, hall, hb.1, hb.2⟩
def insB (l : List (List Int)) : Bool := (List.range l.length).all fun i => (l.getD i []).all (inR i)
theorem getD_some {α : Type} {l : List α} {i : Nat} {x d : α} (h : l[i]? = some x) : l.getD i d = x := by rw [List.getD_eq_getElem?_getD, h]; rfl
theorem inside_c (t : Bool) (l : List (List Int)) (hl : l.length ≤ 4611686018427387904) (hk : ∀ r ∈ l, r.length ≤ 4611686018427387904) (H : AHeap) (K : AV → AHeap → Prop) (h : K (.v (.bool (insB l))) H) : ACall X 59 [.sl t (l.map rowCells)] H K := by
  refine ACall_intro Tryz.func59 rfl (by kernel_rfl) (by rw [Tryz.ntmps59]; simp) ?_; rw [Tryz.ntmps59]; simp only [frame0, Nat.reduceAdd]
  (apply sR; intro K hK; refine qr ?_; refine s_nil (hK _ _ ?_); clear hK K; apply sK; intro K hK; apply sR; intro K hK; (iterate 3 (refine qr ?_)); refine s_nil (hK _ _ ?_); clear hK K; apply AWp_block)
  refine AWp_loop_s (σ := Nat) [7, 8, 9] (fun i => [.sl t (l.map rowCells), .v (.int .i64 (l.length : Nat)), .v (.int .i64 i)]) (fun _ => H) (fun i => l.length - i) (fun i => i ≤ l.length ∧ ((List.range i).all fun j => (l.getD j []).all (inR j)) = true) 0 ⟨Nat.zero_le _, rfl⟩ rfl rfl (fun i hi => ?_)
  simp only [List.zip_cons_cons, List.zip_nil_right]
  (apply sR; intro K hK; refine qr ?_; refine s_nil (hK _ _ ?_); clear hK K; apply sK; intro K hK)
  refine cs (fun hd => ?_) (fun hd => ?_)
  · have hlt : i < l.length := by simpa using hd
    obtain ⟨r, hr⟩ := gete hlt
    have hgr := row_at hr
    have hrl := hk r (List.mem_of_getElem? hr)
    (refine AWp_skip (hK _ _ ?_); clear hK K; apply sK; intro K hK; apply AWp_block; apply sR; intro K hK; (iterate 5 (apply s_q; decide; rfl; (simp only [go_sem, hgr]; rfl))); refine s_nil (hK _ _ ?_); clear hK K; apply sR; intro K hK; (iterate 3 (apply s_q; decide; rfl; (simp only [go_sem, hgr]; rfl))); refine s_nil (hK _ _ ?_); clear hK K; apply AWp_block)
    refine AWp_loop_s (σ := Nat) [3, 7, 8, 9, 14, 15, 16] (fun k => [.v (.int .i64 i), .sl t (l.map rowCells), .v (.int .i64 (l.length : Nat)), .v (.int .i64 i), .sl false (r.map intCells), .v (.int .i64 (r.length : Nat)), .v (.int .i64 k)]) (fun _ => H) (fun k => r.length - k) (fun k => k ≤ r.length ∧ (r.take k).all (inR i) = true) 0 ⟨Nat.zero_le _, rfl⟩ rfl rfl (fun k hk2 => ?_)
    simp only [List.zip_cons_cons, List.zip_nil_right]
    (apply sR; intro K hK; refine qr ?_; refine s_nil (hK _ _ ?_); clear hK K; apply sK; intro K hK)
    refine cs (fun he => ?_) (fun he => ?_)
    · have hkl : k < r.length := by simpa using he
      obtain ⟨x, hx⟩ := gete hkl
      have hgx := int_at hx
      (refine AWp_skip (hK _ _ ?_); clear hK K; apply sK; intro K hK; apply AWp_block; apply sR; intro K hK; (iterate 3 (apply s_q; decide; rfl; (simp only [go_sem, hgx]; rfl))); refine s_nil (hK _ _ ?_); clear hK K; apply sR; intro K hK; (iterate 3 (apply s_q; decide; rfl; (simp only [go_sem, hgx]; rfl))); (iterate 2 (apply s_spec; decide; rfl; rfl; (iterate 4 (simp only [go_sem, hgx]; rfl)); trivial)); apply s_spec; decide; rfl; rfl; (iterate 4 (simp only [go_sem, hgx]; rfl)); simp [condsOk]; apply s_pick; decide; (iterate 6 (simp only [go_sem, hgx]; rfl)); trivial; trivial; simp [condsOk]; refine s_nil (hK _ _ ?_); clear hK K)
      refine cs (fun hz => ?_) (fun hz => ?_)
      · have hbad : inR i x = false := by rw [inR]; revert hz; simp; omega
        (apply sR; intro K hK; refine qr ?_; refine s_nil (hK _ _ ?_); clear hK K; apply AWp_ret; simp only [AThen, ABlock]; apply end_ret; rfl; simp only [AFr.get, reduceIte, Nat.reduceEqDiff])
        refine finB h ?_
        rw [insB, range_no hlt (by rw [getD_some hr]; exact not_all hx hbad)]
      · have hgood : inR i x = true := by rw [inR]; revert hz; simp
        (refine AWp_skip (hK _ _ ?_); clear hK K; apply s_region; (iterate 2 (refine qr ?_)); apply s_nil; simp only [AThen, ABlock])
        refine ⟨k + 1, by omega, ⟨by omega, by rw [all_take hx hk2.2]; exact hgood⟩, ?_, by trivial⟩
        simp only [getAll, List.map, AFr.get, reduceIte, Nat.reduceEqDiff]
        rw [wrapS hkl (by omega)]; try rfl
    · have hge : r.length ≤ k := by simpa using he
      have hall : r.all (inR i) = true := by rw [← hk2.2, List.take_of_length_le hge]
      (apply AWp_exit; simp only [AThen, ABlock, reduceIte, Nat.reduceEqDiff]; clear hK K; refine hK _ _ ?_; clear hK K; apply s_region; (iterate 2 (refine qr ?_)); apply s_nil; simp only [AThen, ABlock])
      refine ⟨i + 1, by omega, ⟨by omega, by rw [range_all, hi.2, getD_some hr, hall]; rfl⟩, ?_, by trivial⟩
      simp only [getAll, List.map, AFr.get, reduceIte, Nat.reduceEqDiff]
      rw [wrapS hlt (by omega)]; try rfl
  · have hge : l.length = i := by simp at hd; omega
    (apply AWp_exit; simp only [AThen, ABlock, reduceIte, Nat.reduceEqDiff]; clear hK K; refine hK _ _ ?_; clear hK K; apply sR; intro K hK; refine qr ?_; refine s_nil (hK _ _ ?_); clear hK K; apply AWp_ret)
    refine finB h ?_
    rw [insB, hge, hi.2]
def rightB (p : Pa) : Bool := decide (p.names.length = p.events.length) && decide (p.prev.length = p.events.length) && decide (p.auth.length = p.events.length) && decide (p.denied.length = p.events.length) && insB p.prev && insB p.auth
set_option maxHeartbeats 4000000 in
theorem right_c (p : Pa) (hw : p.Wide) (H : AHeap) (K : AV → AHeap → Prop) (h : K (.v (.bool (rightB p))) H) : ACall X 25 [.agg p.cells] H K := by
  obtain ⟨w1, w2, w3, w4, w5, w6, w7, w8, w9⟩ := hw
  refine ACall.drop ?_
  rw [Pa.cells]
  refine ACall_intro Tryz.func25 rfl (by kernel_rfl) (by rw [Tryz.ntmps25]; simp) ?_; rw [Tryz.ntmps25]; simp only [frame0, Nat.reduceAdd]
  apply sR; intro K hK
  apply s_box; decide; exact (by simp only [go_sem]; try rfl); exact (by simp only [go_sem]; try rfl); intro q hq
  (refine qr ?_; refine s_nil (hK _ _ ?_); clear hK K; apply sR; intro K hK; (iterate 4 (refine qr ?_)); refine s_nil (hK _ _ ?_); clear hK K; apply sR; intro K hK; (iterate 6 (refine qr ?_)); refine sp ?_; (iterate 2 (refine sp ?_)); refine sp ?_; refine sp ?_; apply s_pick; decide; (iterate 6 (simp only [go_sem]; rfl)); trivial; simp [condsOk]; trivial; refine qr ?_; refine sp ?_; (iterate 2 (refine sp ?_)); refine sp ?_; refine sp ?_; apply s_pick; decide; (iterate 6 (simp only [go_sem]; rfl)); trivial; simp [condsOk]; trivial; refine qr ?_; refine sp ?_; (iterate 2 (refine sp ?_)); refine sp ?_; refine sp ?_; apply s_pick; decide; (iterate 6 (simp only [go_sem]; rfl)); trivial; simp [condsOk]; trivial; refine qr ?_; refine sp ?_; refine sp ?_)
  generalize hgenq : AHeap.put q _ H = M; obtain ⟨g1, hextq⟩ := gen_ex hgenq hq; have hE := hextq; clear hextq hgenq
  (apply s_gpure; decide; (iterate 3 (simp only [go_sem, g1]; rfl)); simp [condsOk]; (iterate 2 (simp only [go_sem, g1]; rfl)); (apply inside_c _ _ w3 w7; exact ⟨rfl, rfl⟩); apply s_pick; decide; (iterate 6 (simp only [go_sem, g1]; rfl)); trivial; simp [condsOk]; trivial; apply s_q; decide; rfl; (simp only [go_sem, g1]; rfl); apply s_spec; decide; rfl; rfl; (iterate 4 (simp only [go_sem, g1]; rfl)); trivial; apply s_spec; decide; rfl; rfl; (iterate 4 (simp only [go_sem, g1]; rfl)); simp [condsOk]; apply s_gpure; decide; (iterate 3 (simp only [go_sem, g1]; rfl)); simp [condsOk]; (iterate 2 (simp only [go_sem, g1]; rfl)); (apply inside_c _ _ w4 w8; exact ⟨rfl, rfl⟩); apply s_pick; decide; (iterate 6 (simp only [go_sem, g1]; rfl)); trivial; simp [condsOk]; trivial; apply s_q; decide; rfl; (simp only [go_sem, g1]; rfl); refine s_nil (hK _ _ ?_); clear hK K; apply AWp_ret)
  refine ⟨H, hE, finB h ?_⟩
  rw [rightB]
  by_cases e1 : p.names.length = p.events.length <;> by_cases e2 : p.prev.length = p.events.length <;> by_cases e3 : p.auth.length = p.events.length <;> by_cases e4 : p.denied.length = p.events.length <;> cases insB p.prev <;> simp [Int.ofNat_inj, e1, e2, e3, e4]
theorem below_c (t : Bool) (l : List Int) (n : Nat) (hl : l.length ≤ 4611686018427387904) (H : AHeap) (K : AV → AHeap → Prop) (h : K (.v (.bool (l.all (inR n)))) H) : ACall X 60 [.sl t (l.map intCells), .v (.int .i64 n)] H K := by
  refine ACall_intro Tryz.func60 rfl (by kernel_rfl) (by rw [Tryz.ntmps60]; simp) ?_; rw [Tryz.ntmps60]; simp only [frame0, Nat.reduceAdd]
  (apply sR; intro K hK; refine qr ?_; refine s_nil (hK _ _ ?_); clear hK K; apply sK; intro K hK; apply sR; intro K hK; refine qr ?_; refine s_nil (hK _ _ ?_); clear hK K; apply AWp_block)
  refine AWp_loop_s (σ := Nat) [0, 1, 5] (fun k => [.sl t (l.map intCells), .v (.int .i64 n), .v (.int .i64 k)]) (fun _ => H) (fun k => l.length - k) (fun k => k ≤ l.length ∧ (l.take k).all (inR n) = true) 0 ⟨Nat.zero_le _, rfl⟩ rfl rfl (fun k hk2 => ?_)
  simp only [List.zip_cons_cons, List.zip_nil_right]
  (apply sK; intro K hK; apply sR; intro K hK; (iterate 4 (refine qr ?_)); refine s_nil (hK _ _ ?_); clear hK K)
  refine cs (fun he => ?_) (fun he => ?_)
  · have hkl : k < l.length := by simpa using he
    obtain ⟨x, hx⟩ := gete hkl
    have hgx := int_at hx
    (refine AWp_skip (hK _ _ ?_); clear hK K; apply sK; intro K hK; apply AWp_block; apply sR; intro K hK; (iterate 6 (apply s_q; decide; rfl; (simp only [go_sem, hgx]; rfl))); (iterate 2 (apply s_spec; decide; rfl; rfl; (iterate 4 (simp only [go_sem, hgx]; rfl)); trivial)); apply s_when; decide; (iterate 3 (simp only [go_sem, hgx]; rfl)); simp [condsOk]; (intro hg; (focus (simp only [go_sem, hgx]; (try rfl); done))); apply s_spec; decide; rfl; rfl; (iterate 4 (simp only [go_sem, hgx]; rfl)); simp [condsOk]; apply s_spec; decide; rfl; rfl; (iterate 4 (simp only [go_sem, hgx]; rfl)); trivial; apply s_spec; decide; rfl; rfl; (iterate 4 (simp only [go_sem, hgx]; rfl)); simp [condsOk]; apply s_pick; decide; (iterate 6 (simp only [go_sem, hgx]; rfl)); trivial; trivial; simp [condsOk]; refine s_nil (hK _ _ ?_); clear hK K)
    refine cs (fun hz => ?_) (fun hz => ?_)
    · have hbad : inR n x = false := by rw [inR]; revert hz; simp; omega
      (apply sR; intro K hK; refine qr ?_; refine s_nil (hK _ _ ?_); clear hK K; apply AWp_ret; simp only [AThen, ABlock]; apply end_ret; rfl; simp only [AFr.get, reduceIte, Nat.reduceEqDiff])
      refine finB h ?_
      rw [not_all hx hbad]
    · have hgood : inR n x = true := by rw [inR]; revert hz; simp
      (refine AWp_skip (hK _ _ ?_); clear hK K; apply s_region; (iterate 3 (refine qr ?_)); apply s_nil; simp only [AThen, ABlock])
      refine ⟨k + 1, by omega, ⟨by omega, by rw [all_take hx hk2.2]; exact hgood⟩, ?_, by trivial⟩
      simp only [getAll, List.map, AFr.get, reduceIte, Nat.reduceEqDiff]
      rw [wrapS hkl (by omega)]; try rfl
  · have hge : l.length ≤ k := by simpa using he
    (apply AWp_exit; simp only [AThen, ABlock, reduceIte, Nat.reduceEqDiff]; clear hK K; refine hK _ _ ?_; clear hK K; apply sR; intro K hK; refine qr ?_; refine s_nil (hK _ _ ?_); clear hK K; apply AWp_ret)
    refine finB h ?_
    rw [← hk2.2, List.take_of_length_le hge]
theorem ins_two {a c : List (List Int)} (h : a.length = c.length) : (insB a && insB c) = (List.range c.length).all fun i => (a.getD i []).all (inR i) && (c.getD i []).all (inR i) := by
  rw [insB, insB, h]
  generalize List.range c.length = l
  induction l with
  | nil => rfl
  | cons x l ih =>
    simp only [List.all_cons, ← ih]
    cases (a.getD x []).all (inR x) <;> cases (c.getD x []).all (inR x) <;> simp
set_option maxHeartbeats 4000000 in
theorem rright_c (p : Pa) (hw : p.Wide) (H : AHeap) (K : AV → AHeap → Prop) (h : K (.v (.bool (rightB p))) H) : ACall X 26 [.agg p.cells] H K := by
  obtain ⟨w1, w2, w3, w4, w5, w6, w7, w8, w9⟩ := hw
  refine ACall.drop ?_
  rw [Pa.cells]
  refine ACall_intro Tryz.func26 rfl (by kernel_rfl) (by rw [Tryz.ntmps26]; simp) ?_; rw [Tryz.ntmps26]; simp only [frame0, Nat.reduceAdd]
  apply sR; intro K hK
  apply s_box; decide; exact (by simp only [go_sem]; try rfl); exact (by simp only [go_sem]; try rfl); intro q hq
  (refine qr ?_; refine s_nil (hK _ _ ?_); clear hK K; apply sR; intro K hK; (iterate 4 (refine qr ?_)); refine s_nil (hK _ _ ?_); clear hK K; apply sK; intro K hK; apply sR; intro K hK; (iterate 6 (refine qr ?_)); refine sp ?_; (iterate 2 (refine sp ?_)); refine sp ?_; refine sp ?_; apply s_pick; decide; (iterate 6 (simp only [go_sem]; rfl)); trivial; trivial; simp [condsOk]; refine qr ?_; refine sp ?_; (iterate 2 (refine sp ?_)); refine sp ?_; refine sp ?_; apply s_pick; decide; (iterate 6 (simp only [go_sem]; rfl)); trivial; trivial; simp [condsOk]; refine qr ?_; refine sp ?_; (iterate 2 (refine sp ?_)); refine sp ?_; refine sp ?_; apply s_pick; decide; (iterate 6 (simp only [go_sem]; rfl)); trivial; trivial; simp [condsOk]; refine s_nil (hK _ _ ?_); clear hK K)
  generalize hgenq : AHeap.put q _ H = M; obtain ⟨g1, hextq⟩ := gen_ex hgenq hq; have hE := hextq; clear hextq hgenq
  skip
  refine cs (fun hc => ?_) (fun hc => ?_)
  · (apply sR; intro K hK; refine qr ?_; refine s_nil (hK _ _ ?_); clear hK K; apply AWp_ret; simp only [AThen, ABlock]; apply end_ret; rfl; simp only [AFr.get, reduceIte, Nat.reduceEqDiff])
    refine ⟨H, hE, finB h ?_⟩
    rw [rightB]
    revert hc
    by_cases e1 : p.names.length = p.events.length <;> by_cases e2 : p.prev.length = p.events.length <;> by_cases e3 : p.auth.length = p.events.length <;> by_cases e4 : p.denied.length = p.events.length <;> simp [Int.ofNat_inj, e1, e2, e3, e4]
  have hlen : p.names.length = p.events.length ∧ p.prev.length = p.events.length ∧ p.auth.length = p.events.length ∧ p.denied.length = p.events.length := by
    revert hc
    by_cases e1 : p.names.length = p.events.length <;> by_cases e2 : p.prev.length = p.events.length <;> by_cases e3 : p.auth.length = p.events.length <;> by_cases e4 : p.denied.length = p.events.length <;> simp [Int.ofNat_inj, e1, e2, e3, e4]
  obtain ⟨e1, e2, e3, e4⟩ := hlen
  have hrb : rightB p = (List.range p.events.length).all fun i => (p.prev.getD i []).all (inR i) && (p.auth.getD i []).all (inR i) := by
    have := ins_two (a := p.prev) (c := p.auth) (by omega)
    rw [rightB, decide_eq_true e1, decide_eq_true e2, decide_eq_true e3, decide_eq_true e4, ← e3, ← this]; simp
  (refine AWp_skip (hK _ _ ?_); clear hK K; apply sK; intro K hK; apply sR; intro K hK; refine qr ?_; refine s_nil (hK _ _ ?_); clear hK K; apply AWp_block)
  refine AWp_loop_s (σ := Nat) [1, 3, 4] (fun i => [ptrTo q, .v (.int .i64 (p.events.length : Nat)), .v (.int .i64 i)]) (fun _ => M) (fun i => p.events.length - i) (fun i => i ≤ p.events.length ∧ ((List.range i).all fun i => (p.prev.getD i []).all (inR i) && (p.auth.getD i []).all (inR i)) = true) 0 ⟨Nat.zero_le _, rfl⟩ rfl rfl (fun i hi => ?_)
  simp only [List.zip_cons_cons, List.zip_nil_right]
  (apply sK; intro K hK; apply sR; intro K hK; (iterate 3 (apply s_q; decide; rfl; (simp only [go_sem, g1]; rfl))); refine s_nil (hK _ _ ?_); clear hK K)
  refine cs (fun hd => ?_) (fun hd => ?_)
  · have hlt : i < p.events.length := by simpa using hd
    obtain ⟨r, hr⟩ := gete (l := p.prev) (i := i) (by omega)
    obtain ⟨s, hs⟩ := gete (l := p.auth) (i := i) (by omega)
    have hgr := row_at hr
    have hgs := row_at hs
    have hrl := w7 r (List.mem_of_getElem? hr)
    have hsl := w8 s (List.mem_of_getElem? hs)
    (refine AWp_skip (hK _ _ ?_); clear hK K; apply sK; intro K hK; apply AWp_block; apply sR; intro K hK; (iterate 6 (apply s_q; decide; rfl; (simp only [go_sem, g1, hgr, hgs]; rfl))); apply s_call; decide; (iterate 2 (simp only [go_sem, g1, hgr, hgs]; rfl)); apply below_c _ r i hrl; (iterate 2 (apply s_q; decide; rfl; (simp only [go_sem, g1, hgr, hgs]; rfl))); apply s_spec; decide; rfl; rfl; (iterate 4 (simp only [go_sem, g1, hgr, hgs]; rfl)); trivial; apply s_spec; decide; rfl; rfl; (iterate 4 (simp only [go_sem, g1, hgr, hgs]; rfl)); simp [condsOk]; apply s_spec; decide; rfl; rfl; (iterate 4 (simp only [go_sem, g1, hgr, hgs]; rfl)); trivial; apply s_when; decide; (iterate 3 (simp only [go_sem, g1, hgr, hgs]; rfl)); simp [condsOk]; (intro hg; (focus (simp only [go_sem, g1, hgs]; (try rfl); done))); apply s_spec; decide; rfl; rfl; (iterate 4 (simp only [go_sem, g1, hgr, hgs]; rfl)); simp [condsOk]; apply s_spec; decide; rfl; rfl; (iterate 4 (simp only [go_sem, g1, hgr, hgs]; rfl)); trivial; apply s_gpure; decide; (iterate 3 (simp only [go_sem, g1, hgr, hgs]; rfl)); simp [condsOk]; (iterate 2 (simp only [go_sem, g1, hgr, hgs]; rfl)); (apply below_c _ s i hsl; exact ⟨rfl, rfl⟩); apply s_spec; decide; rfl; rfl; (iterate 4 (simp only [go_sem, g1, hgr, hgs]; rfl)); simp [condsOk]; apply s_pick; decide; (iterate 6 (simp only [go_sem, g1, hgr, hgs]; rfl)); trivial; trivial; simp [condsOk]; refine s_nil (hK _ _ ?_); clear hK K)
    refine cs (fun he => ?_) (fun he => ?_)
    · (apply sR; intro K hK; refine qr ?_; refine s_nil (hK _ _ ?_); clear hK K; apply AWp_ret; simp only [AThen, ABlock]; apply end_ret; rfl; simp only [AFr.get, reduceIte, Nat.reduceEqDiff])
      refine ⟨H, hE, finB h ?_⟩
      rw [hrb, range_no hlt]
      rw [getD_some hr, getD_some hs]
      revert he
      cases r.all (inR i) <;> cases s.all (inR i) <;> simp
    · (refine AWp_skip (hK _ _ ?_); clear hK K; apply s_region; (iterate 3 (refine qr ?_)); apply s_nil; simp only [AThen, ABlock])
      refine ⟨i + 1, by omega, ⟨by omega, ?_⟩, ?_, by trivial⟩
      · rw [range_all, hi.2, getD_some hr, getD_some hs]
        revert he
        cases r.all (inR i) <;> cases s.all (inR i) <;> simp
      · simp only [getAll, List.map, AFr.get, reduceIte, Nat.reduceEqDiff]
        rw [wrapS hlt (by omega)]; try rfl
  · have hge : p.events.length = i := by simp at hd; omega
    (apply AWp_exit; simp only [AThen, ABlock, reduceIte, Nat.reduceEqDiff]; clear hK K; refine hK _ _ ?_; clear hK K; apply sR; intro K hK; refine qr ?_; refine s_nil (hK _ _ ?_); clear hK K; apply AWp_ret)
    refine ⟨H, hE, finB h ?_⟩
    rw [hrb, hge, hi.2]
structure Pa.Right (p : Pa) : Prop where
  nm : p.names.length = p.events.length
  pr : p.prev.length = p.events.length
  au : p.auth.length = p.events.length
  de : p.denied.length = p.events.length
  inp : insB p.prev = true
  ina : insB p.auth = true
theorem right_true {p : Pa} (h : rightB p = true) : p.Right := by
  simp only [rightB, Bool.and_eq_true, decide_eq_true_eq] at h
  obtain ⟨⟨⟨⟨⟨h1, h2⟩, h3⟩, h4⟩, h5⟩, h6⟩ := h
  exact ⟨h1, h2, h3, h4, h5, h6⟩
theorem ins_at {l : List (List Int)} (h : insB l = true) {i : Nat} {r : List Int} (hr : l[i]? = some r) {k : Int} (hk : k ∈ r) : 0 ≤ k ∧ k < i := by
  rw [insB, List.all_eq_true] at h
  have h1 := h i (List.mem_range.2 (List.getElem?_eq_some_iff.1 hr).1)
  rw [getD_some hr, List.all_eq_true] at h1
  simpa [inR] using h1 k hk
theorem in_c (n : Int) (t : Bool) (l : List Int) (hl : l.length ≤ 4611686018427387904) (H : AHeap) (K : AV → AHeap → Prop) (h : K (.v (.bool (decide (n ∈ l)))) H) : ACall X 29 [.v (.int .i64 n), .sl t (l.map intCells)] H K := by
  refine ACall_intro Tryz.func29 rfl (by kernel_rfl) (by rw [Tryz.ntmps29]; simp) ?_; rw [Tryz.ntmps29]; simp only [frame0, Nat.reduceAdd]
  (apply sR; intro K hK; refine qr ?_; refine s_nil (hK _ _ ?_); clear hK K; apply sK; intro K hK; apply sR; intro K hK; refine qr ?_; refine s_nil (hK _ _ ?_); clear hK K; apply AWp_block)
  refine AWp_loop_s (σ := Nat) [0, 1, 5] (fun i => [.v (.int .i64 n), .sl t (l.map intCells), .v (.int .i64 i)]) (fun _ => H) (fun i => l.length - i) (fun i => i ≤ l.length ∧ ∀ y ∈ l.take i, y ≠ n) 0 ⟨Nat.zero_le _, by simp⟩ rfl rfl (fun i hi => ?_)
  simp only [List.zip_cons_cons, List.zip_nil_right]
  (apply sK; intro K hK; apply sR; intro K hK; (iterate 4 (refine qr ?_)); refine s_nil (hK _ _ ?_); clear hK K)
  refine cs (fun hd => ?_) (fun hd => ?_)
  · have hlt : i < l.length := by simpa using hd
    obtain ⟨a, ha⟩ := gete hlt
    have hg1 := int_at ha
    (refine AWp_skip (hK _ _ ?_); clear hK K; apply sK; intro K hK; apply AWp_block; apply sR; intro K hK; (iterate 6 (apply s_q; decide; rfl; (simp only [go_sem, hg1]; rfl))); refine s_nil (hK _ _ ?_); clear hK K)
    refine cs (fun he => ?_) (fun he => ?_)
    · (apply sR; intro K hK; refine qr ?_; refine s_nil (hK _ _ ?_); clear hK K; apply AWp_ret; simp only [AThen, ABlock]; apply end_ret; rfl; simp only [AFr.get, reduceIte, Nat.reduceEqDiff])
      refine finB h ?_
      symm
      rw [decide_eq_true_iff]
      have : a = n := by simpa using he
      rw [← this]; exact List.mem_of_getElem? ha
    · (refine AWp_skip (hK _ _ ?_); clear hK K; apply s_region; (iterate 3 (refine qr ?_)); apply s_nil; simp only [AThen, ABlock])
      refine ⟨i + 1, by omega, ⟨by omega, fun y hy => ?_⟩, ?_, by trivial⟩
      · rcases take_mem_succ ha hy with h1 | rfl
        · exact hi.2 y h1
        · simpa using he
      · simp only [getAll, List.map, AFr.get, reduceIte, Nat.reduceEqDiff]
        rw [wrapS hlt (by omega)]; try rfl
  · have hge : l.length ≤ i := by simpa using hd
    (apply AWp_exit; simp only [AThen, ABlock, reduceIte, Nat.reduceEqDiff]; clear hK K; refine hK _ _ ?_; clear hK K; apply sR; intro K hK; refine qr ?_; refine s_nil (hK _ _ ?_); clear hK K; apply AWp_ret)
    refine finB h ?_
    symm
    rw [decide_eq_false_iff_not]
    intro hm
    exact hi.2 n (by rw [List.take_of_length_le hge]; exact hm) rfl
theorem there_c (p : Pa) (hw : p.Wide) (i : Int) (H : AHeap) (K : AV → AHeap → Prop) (h : K (.v (.bool (inR p.events.length i))) H) : ACall X 37 [.agg p.cells, .v (.int .i64 i)] H K := by
  have w2 := hw.ev
  refine ACall.drop ?_
  rw [Pa.cells]
  refine ACall_intro Tryz.func37 rfl (by kernel_rfl) (by rw [Tryz.ntmps37]; simp) ?_; rw [Tryz.ntmps37]; simp only [frame0, Nat.reduceAdd]
  apply sR; intro K hK
  apply s_box; decide; exact (by simp only [go_sem]; try rfl); exact (by simp only [go_sem]; try rfl); intro q hq
  (refine qr ?_; refine s_nil (hK _ _ ?_); clear hK K; apply sR; intro K hK; (iterate 3 (refine qr ?_)); (iterate 2 (refine sp ?_)); (iterate 3 (refine sp ?_)); apply s_pick; decide; (iterate 6 (simp only [go_sem]; rfl)); trivial; simp [condsOk]; trivial; refine qr ?_; refine s_nil (hK _ _ ?_); clear hK K; apply AWp_ret)
  generalize hgenq : AHeap.put q _ H = M; obtain ⟨g1, hextq⟩ := gen_ex hgenq hq; have hE := hextq; clear hextq hgenq
  skip
  refine ⟨H, hE, finB h ?_⟩
  rw [inR]
  by_cases e : 0 ≤ i <;> simp [e]
theorem same12_c (t1 t2 : Bool) (l m : List Int) (hl : l.length ≤ 9223372036854775807) (H : AHeap) (K : AV → AHeap → Prop) (h : K (.v (.bool (decide (l = m)))) H) : ACall X 18 [.sl t1 (l.map intCells), .sl t2 (m.map intCells)] H K := by
  refine ACall_intro Tryz.func18 rfl (by kernel_rfl) (by rw [Tryz.ntmps18]; simp) ?_; rw [Tryz.ntmps18]; simp only [frame0, Nat.reduceAdd]
  (apply sR; intro K hK; refine qr ?_; refine s_nil (hK _ _ ?_); clear hK K; apply sK; intro K hK; apply sR; intro K hK; (iterate 5 (refine qr ?_)); refine s_nil (hK _ _ ?_); clear hK K)
  refine cs (fun hc => ?_) (fun hc => ?_)
  · (apply sR; intro K hK; refine qr ?_; refine s_nil (hK _ _ ?_); clear hK K; apply AWp_ret; simp only [AThen, ABlock]; apply end_ret; rfl; simp only [AFr.get, reduceIte, Nat.reduceEqDiff])
    refine finB h ?_
    rw [decide_eq_false]
    intro e
    subst e
    simp at hc
  · (refine AWp_skip (hK _ _ ?_); clear hK K; apply sK; intro K hK; apply sR; intro K hK; refine qr ?_; refine s_nil (hK _ _ ?_); clear hK K; apply AWp_block)
    have hlen : l.length = m.length := by simp at hc; omega
    refine AWp_loop_s (σ := Nat) [0, 1, 5] (fun i => [.sl t1 (l.map intCells), .sl t2 (m.map intCells), .v (.int .i64 i)]) (fun _ => H) (fun i => l.length - i) (fun i => i ≤ l.length ∧ l.take i = m.take i) 0 ⟨Nat.zero_le _, rfl⟩ rfl rfl (fun i hi => ?_)
    simp only [List.zip_cons_cons, List.zip_nil_right]
    (apply sK; intro K hK; apply sR; intro K hK; (iterate 4 (refine qr ?_)); refine s_nil (hK _ _ ?_); clear hK K)
    refine cs (fun hd => ?_) (fun hd => ?_)
    · have hlt : i < l.length := by simpa using hd
      obtain ⟨a, ha⟩ := gete hlt
      obtain ⟨c, hcm⟩ := gete (l := m) (i := i) (by omega)
      have hg1 := int_at ha
      have hg2 := int_at hcm
      (refine AWp_skip (hK _ _ ?_); clear hK K; apply sK; intro K hK; apply AWp_block; apply sK; intro K hK)
      apply AWp_drawA [0, 1, 2, 3, 4, 5, 6, 7, 8] [] 0 (by exact mixed); kernel_rfl; (iterate 2 (simp only [go_sem]; rfl))
      ((iterate 9 (apply e_q; decide; (simp only [go_sem, hg1, hg2]; rfl))); apply e_nil; refine t_nil (hK _ _ ?_); clear hK K)
      refine cs (fun he => ?_) (fun he => ?_)
      · (apply sR; intro K hK; refine qr ?_; refine s_nil (hK _ _ ?_); clear hK K; apply AWp_ret; simp only [AThen, ABlock]; apply end_ret; rfl; simp only [AFr.get, reduceIte, Nat.reduceEqDiff])
        refine finB h ?_
        rw [decide_eq_false]
        rintro rfl
        rw [ha] at hcm; cases hcm
        simp at he
      · (refine AWp_skip (hK _ _ ?_); clear hK K; apply s_region; (iterate 3 (refine qr ?_)); apply s_nil; simp only [AThen, ABlock])
        have hac : a = c := by simpa using he
        subst hac
        refine ⟨i + 1, by omega, ⟨by omega, ?_⟩, ?_, by trivial⟩
        · rw [take_succ ha, take_succ hcm, hi.2]
        · simp only [getAll, List.map, AFr.get, reduceIte, Nat.reduceEqDiff]
          rw [wrapS hlt (by omega)]; try rfl
    · have hge : l.length ≤ i := by simpa using hd
      (apply AWp_exit; simp only [AThen, ABlock, reduceIte, Nat.reduceEqDiff]; clear hK K; refine hK _ _ ?_; clear hK K; apply sR; intro K hK; refine qr ?_; refine s_nil (hK _ _ ?_); clear hK K; apply AWp_ret)
      refine finB h ?_
      symm
      rw [decide_eq_true_iff]
      have := hi.2
      rwa [List.take_of_length_le hge, List.take_of_length_le (by omega)] at this
end Go.Proofs.YtcpfgjfiacfmoaaGreatDoor

set_option linter.unusedSimpArgs false
set_option linter.unusedVariables false
set_option maxRecDepth 100000
namespace Go.Proofs.YtcpfgjfiacfmoaaGreatDoor
open Go Go.AL Go.RowKit Go.ChangeShapes Go.WideShapes Go.Proofs

theorem reach_le {n : Nat} (h : n ≤ reachBytes) : n ≤ 4611686018427387904 := by
  have : reachBytes = 140737488351232 := rfl
  omega
mutual
theorem J.ok_len : ∀ j : J, j.Ok → j.Len
  | .mk _ _ _ ks l => fun h => by
    simp only [J.Ok] at h
    simp only [J.Len]
    exact ⟨reach_le (by omega), reach_le h.2.2.2.2.1, J.oks_lens l h.2.2.2.2.2⟩
theorem J.oks_lens : ∀ l : List J, J.Oks l → J.Lens l
  | [] => fun _ => by simp [J.Lens]
  | j :: l => fun h => by
    simp only [J.Oks] at h
    simp only [J.Lens]
    exact ⟨J.ok_len j h.1, J.oks_lens l h.2⟩
end
theorem bytes_js : X.P.bytesOf 25 = 80 := by kernel_rfl
theorem bytes_str : 0 < X.P.bytesOf 9 := of_decide_eq_true (by kernel_rfl)
theorem bytes_sig : 0 < X.P.bytesOf 48 := of_decide_eq_true (by kernel_rfl)
section
variable {H : Type} {enc : TypeId × Value → H} {w : World}
theorem o_js : ∀ n, OpensL enc X.P w n 25 fun xs => ∃ j : J, xs = j.cells ∧ j.Ok :=
  o_json Tryz.underlying25 ⟨rfl, rfl⟩ ⟨rfl, rfl⟩ ⟨rfl, rfl⟩ ⟨rfl, rfl⟩ ⟨rfl, rfl⟩ ⟨Tryz.underlying3, by kernel_rfl⟩ ⟨Tryz.underlying2, by kernel_rfl⟩ ⟨Tryz.underlying9, by kernel_rfl, by kernel_rfl⟩ ⟨Tryz.underlying22, by kernel_rfl⟩ ⟨Tryz.underlying23, by kernel_rfl⟩ (by kernel_rfl) (by rw [bytes_js]; decide)
theorem o_s (n : Nat) : OpensL enc X.P w n 9 fun xs => ∃ l : List UInt8, xs = [.s l] ∧ l.length ≤ reachBytes := o_str Tryz.underlying9 (by kernel_rfl) n
theorem o_n (n : Nat) : OpensL enc X.P w n 2 fun xs => ∃ i, xs = [.v (.int .i64 i)] ∧ -9223372036854775808 ≤ i ∧ i < 9223372036854775808 := o_i64 Tryz.underlying2 (by kernel_rfl) n
theorem o_int (n : Nat) : OpensL enc X.P w n 3 fun xs => ∃ i, xs = [.v (.int .i64 i)] ∧ -9223372036854775808 ≤ i ∧ i < 9223372036854775808 := o_i64 Tryz.underlying3 (by kernel_rfl) n
theorem o_b (n : Nat) : OpensL enc X.P w n 4 fun xs => ∃ b, xs = [.v (.bool b)] := o_bool Tryz.underlying4 (by kernel_rfl) n
theorem o_strs : ∀ n, OpensL enc X.P w n 22 fun xs => ∃ l : List (List UInt8), xs = [.sl false (l.map strCells)] ∧ l.length ≤ 4611686018427387904 :=
  o_all fun n => (o_list (c := strCells) Tryz.underlying22 (by kernel_rfl) (o_s n)).mono fun xs h => by
    obtain ⟨l, rfl, h1, h2, h3⟩ := h
    exact ⟨l, rfl, reach_le (Nat.le_trans (Nat.le_mul_of_pos_right _ bytes_str) h1)⟩
theorem o_sig : ∀ n, OpensL enc X.P w n 48 fun xs => ∃ x : List UInt8 × List UInt8, xs = sigCells x ∧ True :=
  o_all fun n => (o_struct Tryz.underlying48 (.cons rfl (o_s n) (.cons (by kernel_rfl) (o_s n) .nil)) (by kernel_rfl)).mono fun xs h => by
    obtain ⟨x, y, rfl, ⟨l, rfl, h1⟩, ⟨m, rfl, h2⟩⟩ := Parts.two h
    exact ⟨(l, m), rfl, trivial⟩
theorem o_sigs : ∀ n, OpensL enc X.P w n 26 fun xs => ∃ l : List (List UInt8 × List UInt8), xs = [.sl false (l.map sigCells)] ∧ l.length ≤ 4611686018427387904 :=
  o_all fun n => (o_list Tryz.underlying26 (by kernel_rfl) (o_sig n)).mono fun xs h => by
    obtain ⟨l, rfl, h1, h2, h3⟩ := h
    exact ⟨l, rfl, reach_le (Nat.le_trans (Nat.le_mul_of_pos_right _ bytes_sig) h1)⟩
theorem o_ev : ∀ n, OpensL enc X.P w n 28 fun xs => ∃ e : Ev, xs = e.cells ∧ e.Wide :=
  o_all fun n => (o_struct Tryz.underlying28 (.cons rfl (o_s n) (.cons (by kernel_rfl) (o_s n) (.cons (by kernel_rfl) (o_s n) (.cons (by kernel_rfl) (o_b n) (.cons (by kernel_rfl) (o_s n) (.cons (by kernel_rfl) (o_js n) (.cons (by kernel_rfl) (o_strs n) (.cons (by kernel_rfl) (o_strs n) (.cons (by kernel_rfl) (o_n n) (.cons (by kernel_rfl) (o_n n) (.cons (by kernel_rfl) (o_s n) (.cons (by kernel_rfl) (o_sigs n) .nil)))))))))))) (by kernel_rfl)).mono fun xs h => by
    obtain ⟨x0, y0, rfl, ⟨a0, rfl, c0⟩, k0⟩ := Parts.head h
    obtain ⟨x1, y1, rfl, ⟨a1, rfl, c1⟩, k1⟩ := Parts.head k0
    obtain ⟨x2, y2, rfl, ⟨a2, rfl, c2⟩, k2⟩ := Parts.head k1
    obtain ⟨x3, y3, rfl, ⟨a3, rfl⟩, k3⟩ := Parts.head k2
    obtain ⟨x4, y4, rfl, ⟨a4, rfl, c4⟩, k4⟩ := Parts.head k3
    obtain ⟨x5, y5, rfl, ⟨a5, rfl, c5⟩, k5⟩ := Parts.head k4
    obtain ⟨x6, y6, rfl, ⟨a6, rfl, c6⟩, k6⟩ := Parts.head k5
    obtain ⟨x7, y7, rfl, ⟨a7, rfl, c7⟩, k7⟩ := Parts.head k6
    obtain ⟨x8, y8, rfl, ⟨a8, rfl, c8⟩, k8⟩ := Parts.head k7
    obtain ⟨x9, y9, rfl, ⟨a9, rfl, c9⟩, k9⟩ := Parts.head k8
    obtain ⟨x10, y10, rfl, ⟨a10, rfl, c10⟩, k10⟩ := Parts.head k9
    obtain ⟨x11, y11, rfl, ⟨a11, rfl, c11⟩, k11⟩ := Parts.head k10
    rw [k11.done]
    refine ⟨⟨a0, a1, a2, a3, a4, a5, a6, a7, a8, a9, a10, a11⟩, ?_, J.ok_len _ c5, c6, c7, c11, reach_le c2⟩
    simp only [Ev.cells, J.cells_eq, List.append_nil, List.cons_append, List.nil_append]
theorem bytes_int : 0 < X.P.bytesOf 3 := of_decide_eq_true (by kernel_rfl)
theorem bytes_row : 0 < X.P.bytesOf 38 := of_decide_eq_true (by kernel_rfl)
theorem bytes_bool : 0 < X.P.bytesOf 4 := of_decide_eq_true (by kernel_rfl)
theorem bytes_ev : 0 < X.P.bytesOf 28 := of_decide_eq_true (by kernel_rfl)
theorem o_ints : ∀ n, OpensL enc X.P w n 38 fun xs => ∃ l : List Int, xs = [.sl false (l.map intCells)] ∧ l.length ≤ 4611686018427387904 :=
  o_all fun n => (o_list (c := intCells) Tryz.underlying38 (by kernel_rfl) (o_int n)).mono fun xs h => by
    obtain ⟨l, rfl, h1, h2, h3⟩ := h
    exact ⟨l, rfl, reach_le (Nat.le_trans (Nat.le_mul_of_pos_right _ bytes_int) h1)⟩
theorem o_rows : ∀ n, OpensL enc X.P w n 32 fun xs => ∃ l : List (List Int), xs = [.sl false (l.map rowCells)] ∧ l.length ≤ 4611686018427387904 ∧ ∀ r ∈ l, r.length ≤ 4611686018427387904 :=
  o_all fun n => (o_list (c := rowCells) (p := fun r : List Int => r.length ≤ 4611686018427387904) Tryz.underlying32 (by kernel_rfl) ((o_ints n).mono fun xs h => by
    obtain ⟨l, rfl, h1⟩ := h
    exact ⟨l, rfl, h1⟩)).mono fun xs h => by
    obtain ⟨l, rfl, h1, h2, h3⟩ := h
    exact ⟨l, rfl, reach_le (Nat.le_trans (Nat.le_mul_of_pos_right _ bytes_row) h1), h3⟩
theorem o_bools : ∀ n, OpensL enc X.P w n 33 fun xs => ∃ l : List Bool, xs = [.sl false (l.map bolCells)] ∧ l.length ≤ 4611686018427387904 :=
  o_all fun n => (o_list (c := bolCells) (p := fun _ : Bool => True) Tryz.underlying33 (by kernel_rfl) ((o_b n).mono fun xs h => by
    obtain ⟨b, rfl⟩ := h
    exact ⟨b, rfl, trivial⟩)).mono fun xs h => by
    obtain ⟨l, rfl, h1, h2, h3⟩ := h
    exact ⟨l, rfl, reach_le (Nat.le_trans (Nat.le_mul_of_pos_right _ bytes_bool) h1)⟩
theorem o_names : ∀ n, OpensL enc X.P w n 22 fun xs => ∃ l : List (List UInt8), xs = [.sl false (l.map strCells)] ∧ l.length ≤ 4611686018427387904 ∧ ∀ r ∈ l, r.length ≤ 4611686018427387904 :=
  o_all fun n => (o_list (c := strCells) Tryz.underlying22 (by kernel_rfl) (o_s n)).mono fun xs h => by
    obtain ⟨l, rfl, h1, h2, h3⟩ := h
    exact ⟨l, rfl, reach_le (Nat.le_trans (Nat.le_mul_of_pos_right _ bytes_str) h1), fun r hr => reach_le (h3 r hr)⟩
theorem o_evs : ∀ n, OpensL enc X.P w n 31 fun xs => ∃ l : List Ev, xs = [.sl false (l.map Ev.cells)] ∧ l.length ≤ 4611686018427387904 ∧ ∀ e ∈ l, e.Wide :=
  o_all fun n => (o_list (c := Ev.cells) Tryz.underlying31 (by kernel_rfl) (o_ev n)).mono fun xs h => by
    obtain ⟨l, rfl, h1, h2, h3⟩ := h
    exact ⟨l, rfl, reach_le (Nat.le_trans (Nat.le_mul_of_pos_right _ bytes_ev) h1), h3⟩
theorem o_past : ∀ n, OpensL enc X.P w n 35 fun xs => ∃ p : Pa, xs = p.cells ∧ p.Wide :=
  o_all fun n => (o_struct Tryz.underlying35 (.cons (by kernel_rfl) (o_names n) (.cons (by kernel_rfl) (o_evs n) (.cons (by kernel_rfl) (o_rows n) (.cons (by kernel_rfl) (o_rows n) (.cons (by kernel_rfl) (o_bools n) .nil))))) (by kernel_rfl)).mono fun xs h => by
    obtain ⟨x0, y0, rfl, ⟨a0, rfl, c0, d0⟩, k0⟩ := Parts.head h
    obtain ⟨x1, y1, rfl, ⟨a1, rfl, c1, d1⟩, k1⟩ := Parts.head k0
    obtain ⟨x2, y2, rfl, ⟨a2, rfl, c2, d2⟩, k2⟩ := Parts.head k1
    obtain ⟨x3, y3, rfl, ⟨a3, rfl, c3, d3⟩, k3⟩ := Parts.head k2
    obtain ⟨x4, y4, rfl, ⟨a4, rfl, c4⟩, k4⟩ := Parts.head k3
    rw [k4.done]
    exact ⟨⟨a0, a1, a2, a3, a4⟩, rfl, c0, c1, c2, c3, c4, d1, d2, d3, d0⟩
end

def evAt (p : Pa) (k : Int) : Ev := p.events.getD k.toNat ev0
def isFirst (p : Pa) (kind : List UInt8) (k : Int) : Bool := (evAt p k).isState && decide ((evAt p k).type = kind) && decide ((evAt p k).key = [])
def leanI (p : Pa) (i : Nat) (kind : List UInt8) : Int := match (p.auth.getD i []).find? (isFirst p kind) with | some k => k | none => -1
theorem find_first {α : Type} {p : α → Bool} {l : List α} {i : Nat} {x : α} (hx : l[i]? = some x) (hn : ∀ y ∈ l.take i, p y = false) (hp : p x = true) : l.find? p = some x := by
  obtain ⟨h1, h2⟩ := List.getElem?_eq_some_iff.1 hx
  have hd : l = l.take i ++ x :: l.drop (i + 1) := by rw [← h2, ← List.drop_eq_getElem_cons h1, List.take_append_drop]
  rw [hd, List.find?_append, List.find?_eq_none.2 (fun y hy => by rw [hn y hy]; simp), Option.none_or, List.find?_cons_of_pos hp]
theorem find_none {α : Type} {p : α → Bool} {l : List α} (hn : ∀ y ∈ l, p y = false) : l.find? p = none := List.find?_eq_none.2 (fun y hy => by rw [hn y hy]; simp)
theorem leanI_lt {p : Pa} (hr : p.Right) {i : Nat} {kind : List UInt8} : leanI p i kind = -1 ∨ ∃ n : Nat, leanI p i kind = n ∧ n < i ∧ isFirst p kind n = true := by
  unfold leanI
  cases h : (p.auth.getD i []).find? (isFirst p kind) with
  | none => exact .inl rfl
  | some k =>
    have h1 := List.mem_of_find?_eq_some h
    have h2 := List.find?_some h
    cases hg : p.auth[i]? with
    | none => rw [List.getD_eq_getElem?_getD, hg] at h1; cases h1
    | some r =>
      rw [getD_some hg] at h1
      have := ins_at hr.ina hg h1
      refine .inr ⟨k.toNat, by simp only; omega, by omega, ?_⟩
      rw [show ((k.toNat : Nat) : Int) = k by omega]; exact h2
set_option maxHeartbeats 4000000 in
theorem first_c (p : Pa) (hw : p.Wide) (hr : p.Right) (i : Nat) (hi : i < p.events.length) (kind : List UInt8) (H : AHeap) (K : AV → AHeap → Prop) (h : K (.v (.int .i64 (leanI p i kind))) H) : ACall X 67 [.agg p.cells, .v (.int .i64 i), .s kind] H K := by
  obtain ⟨w1, w2, w3, w4, w5, w6, w7, w8, w9⟩ := hw
  obtain ⟨r, hra⟩ := gete (l := p.auth) (i := i) (by have := hr.au; omega)
  have hgr := row_at hra
  have hrl := w8 r (List.mem_of_getElem? hra)
  have hin := fun k hk => ins_at hr.ina hra (k := k) hk
  rw [leanI, getD_some hra] at h
  refine ACall.drop ?_
  rw [Pa.cells]
  refine ACall_intro Tryz.func67 rfl (by kernel_rfl) (by rw [Tryz.ntmps67]; simp) ?_; rw [Tryz.ntmps67]; simp only [frame0, Nat.reduceAdd]
  apply sR; intro K hK
  apply s_box; decide; exact (by simp only [go_sem]; try rfl); exact (by simp only [go_sem]; try rfl); intro q hq
  (refine qr ?_; refine s_nil (hK _ _ ?_); clear hK K; apply sK; intro K hK; apply sR; intro K hK; (iterate 3 (refine qr ?_)))
  generalize hgenq : AHeap.put q _ H = M; obtain ⟨g1, hextq⟩ := gen_ex hgenq hq; have hE := hextq; clear hextq hgenq
  ((iterate 4 (apply s_q; decide; rfl; (simp only [go_sem, g1, hgr]; rfl))); refine s_nil (hK _ _ ?_); clear hK K; apply AWp_block)
  refine AWp_loop_s (σ := Nat × AHeap) [1, 2, 3, 14, 15, 16] (fun s => [.v (.int .i64 i), .s kind, ptrTo q, .sl false (r.map intCells), .v (.int .i64 (r.length : Nat)), .v (.int .i64 s.1)]) (fun s => s.2) (fun s => r.length - s.1)
    (fun s => s.1 ≤ r.length ∧ (∀ y ∈ r.take s.1, isFirst p kind y = false) ∧ Ext H s.2 ∧ s.2.get q = some (.box 35 [.sl false (p.names.map strCells), .sl false (p.events.map Ev.cells), .sl false (p.prev.map rowCells), .sl false (p.auth.map rowCells), .sl false (p.denied.map bolCells)]))
    (0, M) ⟨Nat.zero_le _, by simp, hE, g1⟩ rfl rfl (fun s hs => ?_)
  obtain ⟨k, L⟩ := s
  obtain ⟨hk, hno, hEL, gL⟩ := hs
  clear g1 hE
  simp only [List.zip_cons_cons, List.zip_nil_right] at hk hno hEL gL ⊢
  (apply sR; intro K hK; refine qr ?_; refine s_nil (hK _ _ ?_); clear hK K; apply sK; intro K hK)
  refine cs (fun hd => ?_) (fun hd => ?_)
  · have hlt : k < r.length := by simpa using hd
    obtain ⟨x, hx⟩ := gete hlt
    have hgx := int_at hx
    obtain ⟨hx0, hxi⟩ := hin x (List.mem_of_getElem? hx)
    obtain ⟨xn, rfl⟩ : ∃ xn : Nat, x = xn := ⟨x.toNat, by omega⟩
    obtain ⟨e, he⟩ := gete (l := p.events) (i := xn) (by omega)
    have hge := ev_at he
    have hev : evAt p xn = e := by rw [evAt, Int.toNat_natCast]; exact getD_some he
    have hif : isFirst p kind xn = (e.isState && decide (e.type = kind) && decide (e.key = [])) := by rw [isFirst, hev]
    (refine AWp_skip (hK _ _ ?_); clear hK K; apply sK; intro K hK; apply AWp_block; apply sR; intro K hK; (iterate 3 (apply s_q; decide; rfl; (simp only [go_sem, hgx, gL, hge]; rfl))); refine s_nil (hK _ _ ?_); clear hK K; apply sR; intro K hK; (iterate 5 (apply s_q; decide; rfl; (simp only [go_sem, hgx, gL, hge]; rfl))); apply s_alloc; decide; exact zc_28; intro b hb; apply s_store; (iterate 3 (simp only [go_sem, hgx, gL, hge]; rfl)); refine s_nil (hK _ _ ?_); clear hK K; apply sR; intro K hK; (iterate 3 (apply s_q; decide; rfl; (simp only [go_sem, hgx, gL, hge]; rfl))); apply s_spec; decide; rfl; rfl; (iterate 4 (simp only [go_sem, hgx, gL, hge]; rfl)); trivial; apply s_spec; decide; rfl; rfl; (iterate 4 (simp only [go_sem, hgx, gL, hge]; rfl)); simp [condsOk]; apply s_spec; decide; rfl; rfl; (iterate 4 (simp only [go_sem, hgx, gL, hge]; rfl)); trivial; apply s_spec; decide; rfl; rfl; (iterate 4 (simp only [go_sem, hgx, gL, hge]; rfl)); simp [condsOk]; apply s_pick; decide; (iterate 6 (simp only [go_sem, hgx, gL, hge]; rfl)); trivial; simp [condsOk]; trivial; apply s_q; decide; rfl; (simp only [go_sem, hgx, gL, hge]; rfl); apply s_spec; decide; rfl; rfl; (iterate 4 (simp only [go_sem, hgx, gL, hge]; rfl)); trivial; (iterate 2 (apply s_spec; decide; rfl; rfl; (iterate 4 (simp only [go_sem, hgx, gL, hge]; rfl)); simp [condsOk])); apply s_pick; decide; (iterate 6 (simp only [go_sem, hgx, gL, hge]; rfl)); trivial; simp [condsOk]; trivial; refine s_nil (hK _ _ ?_); clear hK K)
    obtain ⟨c, hnewq⟩ : ∃ q, q = b := ⟨_, rfl⟩; have hc := hb; rw [← hnewq] at hc ⊢; clear hb hnewq; try clear he; clear b
    generalize hgenq : AHeap.put c _ L = L2; obtain ⟨gc, hextq⟩ := gen_ex hgenq hc; have gL := hextq _ _ gL; have hEL := Ext.trans hEL hextq; clear hextq hgenq
    skip
    refine cs (fun hz => ?_) (fun hz => ?_)
    · have hyes : isFirst p kind xn = true := by
        rw [hif]; revert hz; cases e.isState <;> simp
      rw [find_first hx hno hyes] at h
      (apply sR; intro K hK; (iterate 2 (refine qr ?_)); refine s_nil (hK _ _ ?_); clear hK K; apply AWp_ret; simp only [AThen, ABlock]; apply end_ret; rfl; simp only [AFr.get, reduceIte, Nat.reduceEqDiff])
      exact ⟨H, by assumption, h⟩
    · have hnot : isFirst p kind xn = false := by
        rw [hif]; revert hz; cases e.isState <;> simp
      (refine AWp_skip (hK _ _ ?_); clear hK K; apply s_region; (iterate 2 (refine qr ?_)); apply s_nil; simp only [AThen, ABlock])
      refine ⟨(k + 1, L2), by simp only; omega, ⟨by simp only; omega, fun y hy => ?_, by assumption, by assumption⟩, ?_, by trivial⟩
      · rcases take_mem_succ hx hy with h1 | rfl
        · exact hno y h1
        · exact hnot
      · simp only [getAll, List.map, AFr.get, reduceIte, Nat.reduceEqDiff]
        rw [wrapS hlt (by omega)]; try rfl
  · have hge : r.length ≤ k := by simpa using hd
    rw [List.take_of_length_le hge] at hno
    rw [find_none hno] at h
    (apply AWp_exit; simp only [AThen, ABlock, reduceIte, Nat.reduceEqDiff]; clear hK K; refine hK _ _ ?_; clear hK K; apply sR; intro K hK; refine qr ?_; refine s_nil (hK _ _ ?_); clear hK K; apply AWp_ret)
    exact ⟨H, by assumption, h⟩
set_option maxHeartbeats 4000000 in
theorem leans_c (p : Pa) (hw : p.Wide) (hr : p.Right) (i : Nat) (hi : i < p.events.length) (kind : List UInt8) (H : AHeap) (K : AV → AHeap → Prop) (h : K (.v (.int .i64 (leanI p i kind))) H) : ACall X 39 [.agg p.cells, .v (.int .i64 i), .s kind] H K := by
  obtain ⟨w1, w2, w3, w4, w5, w6, w7, w8, w9⟩ := hw
  obtain ⟨r, hra⟩ := gete (l := p.auth) (i := i) (by have := hr.au; omega)
  have hgr := row_at hra
  have hrl := w8 r (List.mem_of_getElem? hra)
  have hin := fun k hk => ins_at hr.ina hra (k := k) hk
  rw [leanI, getD_some hra] at h
  refine ACall.drop ?_
  rw [Pa.cells]
  refine ACall_intro Tryz.func39 rfl (by kernel_rfl) (by rw [Tryz.ntmps39]; simp) ?_; rw [Tryz.ntmps39]; simp only [frame0, Nat.reduceAdd]
  apply sR; intro K hK
  apply s_box; decide; exact (by simp only [go_sem]; try rfl); exact (by simp only [go_sem]; try rfl); intro q hq
  (refine qr ?_; refine s_nil (hK _ _ ?_); clear hK K; apply sK; intro K hK; apply sR; intro K hK; refine qr ?_; refine s_nil (hK _ _ ?_); clear hK K; apply AWp_block)
  generalize hgenq : AHeap.put q _ H = M; obtain ⟨g1, hextq⟩ := gen_ex hgenq hq; have hE := hextq; clear hextq hgenq
  skip
  refine AWp_loop_s (σ := Nat × AHeap) [1, 2, 3, 7] (fun s => [.v (.int .i64 i), .s kind, ptrTo q, .v (.int .i64 s.1)]) (fun s => s.2) (fun s => r.length - s.1)
    (fun s => s.1 ≤ r.length ∧ (∀ y ∈ r.take s.1, isFirst p kind y = false) ∧ Ext H s.2 ∧ s.2.get q = some (.box 35 [.sl false (p.names.map strCells), .sl false (p.events.map Ev.cells), .sl false (p.prev.map rowCells), .sl false (p.auth.map rowCells), .sl false (p.denied.map bolCells)]))
    (0, M) ⟨Nat.zero_le _, by simp, hE, g1⟩ rfl rfl (fun s hs => ?_)
  obtain ⟨k, L⟩ := s
  obtain ⟨hk, hno, hEL, gL⟩ := hs
  clear g1 hE
  simp only [List.zip_cons_cons, List.zip_nil_right] at hk hno hEL gL ⊢
  (apply sK; intro K hK; apply sR; intro K hK; (iterate 8 (apply s_q; decide; rfl; (simp only [go_sem, gL, hgr]; rfl))); refine s_nil (hK _ _ ?_); clear hK K)
  refine cs (fun hd => ?_) (fun hd => ?_)
  · have hlt : k < r.length := by simpa using hd
    obtain ⟨x, hx⟩ := gete hlt
    have hgx := int_at hx
    obtain ⟨hx0, hxi⟩ := hin x (List.mem_of_getElem? hx)
    obtain ⟨xn, rfl⟩ : ∃ xn : Nat, x = xn := ⟨x.toNat, by omega⟩
    obtain ⟨e, he⟩ := gete (l := p.events) (i := xn) (by omega)
    have hge := ev_at he
    have hev : evAt p xn = e := by rw [evAt, Int.toNat_natCast]; exact getD_some he
    have hif : isFirst p kind xn = (e.isState && decide (e.type = kind) && decide (e.key = [])) := by rw [isFirst, hev]
    (refine AWp_skip (hK _ _ ?_); clear hK K; apply sK; intro K hK; apply AWp_block; apply sK; intro K hK)
    apply AWp_drawA [0, 1, 2, 3, 4, 5, 6, 7, 8, 9, 10, 11] [12, 13] 1 (by exact mixed); kernel_rfl; (iterate 2 (simp only [go_sem]; rfl))
    ((iterate 12 (apply e_q; decide; (simp only [go_sem, hgx, gL, hge, hgr]; rfl))); apply e_nil; apply t_alloc; decide; exact zc_28; (intro _; exact Ext.refl _); intro b hb he; apply t_storex; (iterate 3 (simp only [go_sem, hgx, gL, hge, hgr]; rfl)); (first | (intro _; exact Ext.put (Ext.refl _) (by assumption)) | (intro h; exact absurd h (by decide)) | (intro _; exact Ext.put (by assumption) (by assumption)) | (intro _; refine Ext.over (c := _) ?_ ?_ <;> assumption)); refine t_nil (hK _ _ ?_); clear hK K; apply sR; intro K hK; (iterate 3 (apply s_q; decide; rfl; (simp only [go_sem, hgx, gL, hge, hgr]; rfl))); apply s_spec; decide; rfl; rfl; (iterate 4 (simp only [go_sem, hgx, gL, hge, hgr]; rfl)); trivial; apply s_spec; decide; rfl; rfl; (iterate 4 (simp only [go_sem, hgx, gL, hge, hgr]; rfl)); simp [condsOk]; apply s_spec; decide; rfl; rfl; (iterate 4 (simp only [go_sem, hgx, gL, hge, hgr]; rfl)); trivial; apply s_spec; decide; rfl; rfl; (iterate 4 (simp only [go_sem, hgx, gL, hge, hgr]; rfl)); simp [condsOk]; apply s_pick; decide; (iterate 6 (simp only [go_sem, hgx, gL, hge, hgr]; rfl)); trivial; simp [condsOk]; trivial; apply s_q; decide; rfl; (simp only [go_sem, hgx, gL, hge, hgr]; rfl); apply s_spec; decide; rfl; rfl; (iterate 4 (simp only [go_sem, hgx, gL, hge, hgr]; rfl)); trivial; (iterate 2 (apply s_spec; decide; rfl; rfl; (iterate 4 (simp only [go_sem, hgx, gL, hge, hgr]; rfl)); simp [condsOk])); apply s_pick; decide; (iterate 6 (simp only [go_sem, hgx, gL, hge, hgr]; rfl)); trivial; simp [condsOk]; trivial; refine s_nil (hK _ _ ?_); clear hK K)
    obtain ⟨c, hnewq⟩ : ∃ q, q = b := ⟨_, rfl⟩; have hc := hb; rw [← hnewq] at hc ⊢; clear hb hnewq; try clear he; clear b
    generalize hgenq : AHeap.put c _ L = L2; obtain ⟨gc, hextq⟩ := gen_ex hgenq hc; have gL := hextq _ _ gL; have hEL := Ext.trans hEL hextq; clear hextq hgenq
    skip
    refine cs (fun hz => ?_) (fun hz => ?_)
    · have hyes : isFirst p kind xn = true := by
        rw [hif]; revert hz; cases e.isState <;> simp
      rw [find_first hx hno hyes] at h
      (apply sR; intro K hK; (iterate 9 (apply s_q; decide; rfl; (simp only [go_sem, gL, hgr, hgx]; rfl))); refine s_nil (hK _ _ ?_); clear hK K; apply AWp_ret; simp only [AThen, ABlock]; apply end_ret; rfl; simp only [AFr.get, reduceIte, Nat.reduceEqDiff])
      exact ⟨H, by assumption, h⟩
    · have hnot : isFirst p kind xn = false := by
        rw [hif]; revert hz; cases e.isState <;> simp
      (refine AWp_skip (hK _ _ ?_); clear hK K; apply s_region; (iterate 3 (refine qr ?_)); apply s_nil; simp only [AThen, ABlock])
      refine ⟨(k + 1, L2), by simp only; omega, ⟨by simp only; omega, fun y hy => ?_, by assumption, by assumption⟩, ?_, by trivial⟩
      · rcases take_mem_succ hx hy with h1 | rfl
        · exact hno y h1
        · exact hnot
      · simp only [getAll, List.map, AFr.get, reduceIte, Nat.reduceEqDiff]
        rw [wrapS hlt (by omega)]; try rfl
  · have hge : r.length ≤ k := by simpa using hd
    rw [List.take_of_length_le hge] at hno
    rw [find_none hno] at h
    (apply AWp_exit; simp only [AThen, ABlock, reduceIte, Nat.reduceEqDiff]; clear hK K; refine hK _ _ ?_; clear hK K; apply sR; intro K hK; refine qr ?_; refine s_nil (hK _ _ ?_); clear hK K; apply AWp_ret)
    exact ⟨H, by assumption, h⟩
end Go.Proofs.YtcpfgjfiacfmoaaGreatDoor

set_option linter.unusedSimpArgs false
set_option linter.unusedVariables false
namespace Go.Proofs.YtcpfgjfiacfmoaaGreatDoor
open Go Go.AL

inductive Reach (au : List (List Int)) (l : List Int) : Int → Prop
  | base {i : Nat} {r : List Int} {k : Int} : (i : Int) ∈ l → au[i]? = some r → k ∈ r → Reach au l k
  | step {j : Nat} {r : List Int} {k : Int} : Reach au l j → au[j]? = some r → k ∈ r → Reach au l k
def Below (au : List (List Int)) : Prop := ∀ (i : Nat) (r : List Int), au[i]? = some r → ∀ k ∈ r, 0 ≤ k ∧ k < i
theorem Reach.lt {au : List (List Int)} {l : List Int} (hb : Below au) {k : Int} (h : Reach au l k) : 0 ≤ k ∧ k < au.length := by
  cases h with
  | base h1 h2 h3 => have := hb _ _ h2 _ h3; have := (List.getElem?_eq_some_iff.1 h2).1; omega
  | step h1 h2 h3 => have := hb _ _ h2 _ h3; have := (List.getElem?_eq_some_iff.1 h2).1; omega
def Got (au : List (List Int)) (l : List Int) (i : Nat) (k : Int) : Prop := ∃ (j : Nat) (r : List Int), i ≤ j ∧ au[j]? = some r ∧ (Reach au l j ∨ (j : Int) ∈ l) ∧ k ∈ r
theorem got_zero {au : List (List Int)} {l : List Int} {k : Int} : Got au l 0 k ↔ Reach au l k := by
  constructor
  · rintro ⟨j, r, _, h1, h2 | h2, h3⟩
    · exact .step h2 h1 h3
    · exact .base h2 h1 h3
  · intro h
    cases h with
    | base h1 h2 h3 => exact ⟨_, _, Nat.zero_le _, h2, .inr h1, h3⟩
    | step h1 h2 h3 => exact ⟨_, _, Nat.zero_le _, h2, .inl h1, h3⟩
theorem got_top {au : List (List Int)} {l : List Int} {k : Int} : ¬ Got au l au.length k := by
  rintro ⟨j, r, h0, h1, _⟩
  have := (List.getElem?_eq_some_iff.1 h1).1
  omega
theorem got_own {au : List (List Int)} {l : List Int} (hb : Below au) {i : Nat} : Got au l (i + 1) i ↔ Reach au l i := by
  constructor
  · rintro ⟨j, r, _, h1, h2⟩
    exact got_zero.1 ⟨j, r, Nat.zero_le _, h1, h2⟩
  · intro h
    obtain ⟨j, r, _, h1, h2, h3⟩ := got_zero.2 h
    have := hb _ _ h1 _ h3
    exact ⟨j, r, by omega, h1, h2, h3⟩
theorem got_step {au : List (List Int)} {l : List Int} {i : Nat} {r : List Int} (hr : au[i]? = some r) {k : Int} : Got au l i k ↔ Got au l (i + 1) k ∨ ((Reach au l i ∨ (i : Int) ∈ l) ∧ k ∈ r) := by
  constructor
  · rintro ⟨j, q, h0, h1, h2, h3⟩
    by_cases e : j = i
    · subst e
      rw [hr] at h1; cases h1
      exact .inr ⟨h2, h3⟩
    · exact .inl ⟨j, q, by omega, h1, h2, h3⟩
  · rintro (⟨j, q, h0, h1, h2⟩ | ⟨h1, h2⟩)
    · exact ⟨j, q, by omega, h1, h2⟩
    · exact ⟨i, r, Nat.le_refl _, hr, h1, h2⟩

structure Search (au : List (List Int)) (l S T : List Int) : Prop where
  nd : S.Nodup
  sub : ∀ k ∈ S, Reach au l k
  todo : ∀ i ∈ T, i ∈ l ∨ i ∈ S
  done : ∀ i : Nat, ((i : Int) ∈ l ∨ (i : Int) ∈ S) → (i : Int) ∈ T ∨ ∀ r, au[i]? = some r → ∀ k ∈ r, k ∈ S
theorem Search.start (au : List (List Int)) (l : List Int) : Search au l [] l := ⟨.nil, (by simp), fun i h => .inl h, fun i h => .inl (h.resolve_right (by simp))⟩
theorem Search.all {au : List (List Int)} {l S : List Int} (h : Search au l S []) {k : Int} : k ∈ S ↔ Reach au l k := by
  refine ⟨h.sub k, fun hr => ?_⟩
  induction hr with
  | base h1 h2 h3 => exact (h.done _ (.inl h1)).resolve_left (by simp) _ h2 _ h3
  | step h1 h2 h3 ih => exact (h.done _ (.inr ih)).resolve_left (by simp) _ h2 _ h3
structure Within (au : List (List Int)) (l : List Int) (i : Nat) (r : List Int) (n : Nat) (S T : List Int) : Prop where
  nd : S.Nodup
  sub : ∀ k ∈ S, Reach au l k
  own : (i : Int) ∈ l ∨ Reach au l i
  seen : ∀ k ∈ r.take n, k ∈ S
  todo : ∀ j ∈ T, j ∈ l ∨ j ∈ S
  done : ∀ j : Nat, j ≠ i → ((j : Int) ∈ l ∨ (j : Int) ∈ S) → (j : Int) ∈ T ∨ ∀ q, au[j]? = some q → ∀ k ∈ q, k ∈ S
theorem Search.into {au : List (List Int)} {l S T : List Int} {i : Nat} {r : List Int} (h : Search au l S (T ++ [(i : Int)])) (hr : au[i]? = some r) : Within au l i r 0 S T := by
  refine ⟨h.nd, h.sub, ?_, by simp, fun j hj => h.todo j (by simp [hj]), fun j hj hm => ?_⟩
  · rcases h.todo i (by simp) with h1 | h1
    · exact .inl h1
    · exact .inr (h.sub _ h1)
  · rcases h.done j hm with h1 | h1
    · left
      rw [List.mem_append] at h1
      rcases h1 with h1 | h1
      · exact h1
      · simp at h1; omega
    · exact .inr h1
theorem Within.out {au : List (List Int)} {l S T : List Int} {i : Nat} {r : List Int} {n : Nat} (h : Within au l i r n S T) (hr : au[i]? = some r) (hn : r.length ≤ n) : Search au l S T := by
  have hs := h.seen
  rw [List.take_of_length_le hn] at hs
  refine ⟨h.nd, h.sub, h.todo, fun j hm => ?_⟩
  by_cases e : j = i
  · subst e
    refine .inr fun q hq k hk => ?_
    rw [hr] at hq; cases hq
    exact hs k hk
  · exact h.done j e hm
theorem Within.old {au : List (List Int)} {l S T : List Int} {i : Nat} {r : List Int} {n : Nat} {k : Int} (h : Within au l i r n S T) (hk : r[n]? = some k) (hS : k ∈ S) : Within au l i r (n + 1) S T :=
  ⟨h.nd, h.sub, h.own, fun x hx => (take_mem_succ hk hx).elim (h.seen x) (fun e => e ▸ hS), h.todo, h.done⟩
theorem Within.new {au : List (List Int)} {l S T : List Int} {i : Nat} {r : List Int} {n : Nat} {k : Int} (h : Within au l i r n S T) (hr : au[i]? = some r) (hk : r[n]? = some k) (hS : k ∉ S) : Within au l i r (n + 1) (S ++ [k]) (T ++ [k]) := by
  have hm := List.mem_of_getElem? hk
  refine ⟨List.nodup_append.2 ⟨h.nd, by simp, fun a ha c hc => by simp at hc; subst hc; rintro rfl; exact hS ha⟩, fun x hx => ?_, h.own, fun x hx => ?_, fun j hj => ?_, fun j hj hjm => ?_⟩
  · rw [List.mem_append] at hx
    rcases hx with hx | hx
    · exact h.sub x hx
    · simp at hx; subst hx
      rcases h.own with h1 | h1
      · exact .base h1 hr hm
      · exact .step h1 hr hm
  · rcases take_mem_succ hk hx with hx | hx
    · exact List.mem_append.2 (.inl (h.seen x hx))
    · simp [hx]
  · rw [List.mem_append] at hj
    rcases hj with hj | hj
    · exact (h.todo j hj).imp id fun e => List.mem_append.2 (.inl e)
    · simp at hj; subst hj; simp
  · by_cases e : (j : Int) = k
    · left; simp [e]
    · have := h.done j hj (hjm.imp id fun e2 => by
        rw [List.mem_append] at e2
        rcases e2 with e2 | e2
        · exact e2
        · simp at e2; exact absurd e2 e)
      rcases this with h1 | h1
      · left; simp [h1]
      · right; intro q hq x hx; exact List.mem_append.2 (.inl (h1 q hq x hx))
theorem Search.drop {au : List (List Int)} {l S T : List Int} {i : Int} (h : Search au l S (T ++ [i])) (hi : i < 0 ∨ au.length ≤ i) : Search au l S T := by
  refine ⟨h.nd, h.sub, fun j hj => h.todo j (by simp [hj]), fun j hm => ?_⟩
  rcases h.done j hm with h1 | h1
  · rw [List.mem_append] at h1
    rcases h1 with h1 | h1
    · exact .inl h1
    · right
      intro q hq
      have := (List.getElem?_eq_some_iff.1 hq).1
      simp at h1; omega
  · exact .inr h1
theorem Search.few {au : List (List Int)} {l S : List Int} (hb : Below au) (hn : S.Nodup) (hs : ∀ k ∈ S, Reach au l k) : S.length ≤ au.length := by
  have h1 : (S.map Int.toNat).Nodup := by
    refine List.pairwise_map.2 (List.Pairwise.imp_of_mem (fun {a c} ha hc (h : a ≠ c) e => h ?_) hn)
    have h1 := (hs a ha).lt hb
    have h2 := (hs c hc).lt hb
    omega
  have h2 := nodup_nat_le h1 (n := au.length) (fun i hi => by
    obtain ⟨k, hk, rfl⟩ := List.mem_map.1 hi
    have := (hs k hk).lt hb
    omega)
  simpa using h2

theorem lessI_lt {R : List Int} {a b : Nat} : lessI R a b < 0 ↔ R.getD a 0 < R.getD b 0 ∨ (R.getD a 0 = R.getD b 0 ∧ a < b) := by
  unfold lessI firstNZ firstNZ
  split
  · rename_i h
    rw [cmp_zero] at h
    split
    · rename_i h2
      rw [cmp_zero] at h2
      simp only [firstNZ]; omega
    · rw [cmp_lt]; omega
  · rename_i h
    rw [cmp_zero] at h
    rw [cmp_lt]; omega
theorem less_irr {R : List Int} (a : Nat) : ¬ lessI R a a < 0 := by rw [lessI_lt]; omega
theorem less_tr {R : List Int} {a b c : Nat} (h : lessI R a b < 0) (k : lessI R b c < 0) : lessI R a c < 0 := by rw [lessI_lt] at *; omega
theorem less_ntr {R : List Int} {a b c : Nat} (h : ¬ lessI R a b < 0) (k : ¬ lessI R b c < 0) : ¬ lessI R a c < 0 := by rw [lessI_lt] at *; omega
theorem less_tot {R : List Int} {a b : Nat} (h : ¬ lessI R a b < 0) (hn : a ≠ b) : lessI R b a < 0 := by rw [lessI_lt] at *; omega

def ofN (l : List Nat) : List Int := l.map Int.ofNat
theorem mem_ofN {x : Nat} {l : List Nat} : (x : Int) ∈ ofN l ↔ x ∈ l := by
  simp only [ofN, List.mem_map]
  constructor
  · rintro ⟨y, h, e⟩
    have : y = x := Int.ofNat.inj e
    rw [← this]; exact h
  · intro h; exact ⟨x, h, rfl⟩
def rdy (P : List (List Int)) (told : List Nat) (i : Nat) : Bool := (P.getD i []).all fun x => decide (x ∈ ofN told)
def may (P : List (List Int)) (told : List Nat) (i : Nat) : Prop := i ∉ told ∧ rdy P told i = true

theorem picks_eq {P : List (List Int)} {R : List Int} {told : List Nat} {i : Nat} {b : Int} : picks P R (ofN told) i b = true ↔ may P told i ∧ (b < 0 ∨ R.getD i 0 < R.getD b.toNat 0) := by
  simp only [picks, Bool.and_eq_true, Bool.or_eq_true, Bool.not_eq_true', decide_eq_false_iff_not, decide_eq_true_eq, mem_ofN, may, rdy]
theorem best_is {P : List (List Int)} {R : List Int} {told : List Nat} : ∀ n : Nat, (bestU P R (ofN told) n = -1 ∧ ∀ j, j < n → ¬ may P told j) ∨
    ∃ j : Nat, j < n ∧ bestU P R (ofN told) n = j ∧ may P told j ∧ ∀ k, k < n → may P told k → k ≠ j → lessI R j k < 0
  | 0 => .inl ⟨rfl, by omega⟩
  | n + 1 => by
    rcases best_is (P := P) (R := R) (told := told) n with ⟨h1, h2⟩ | ⟨j, hj, h1, h2, h3⟩
    · rw [bestU, h1]
      by_cases hp : picks P R (ofN told) n (-1) = true
      · rw [if_pos hp]
        exact .inr ⟨n, by omega, rfl, (picks_eq.1 hp).1, fun k hk hm hne => absurd hm (h2 k (by omega))⟩
      · rw [if_neg hp]
        refine .inl ⟨rfl, fun k hk hm => ?_⟩
        by_cases e : k = n
        · subst e; exact hp (picks_eq.2 ⟨hm, .inl (by decide)⟩)
        · exact h2 k (by omega) hm
    · rw [bestU, h1]
      by_cases hp : picks P R (ofN told) n (j : Int) = true
      · rw [if_pos hp]
        obtain ⟨hm, hb⟩ := picks_eq.1 hp
        have hb : R.getD n 0 < R.getD j 0 := by
          rcases hb with hb | hb
          · omega
          · simpa using hb
        refine .inr ⟨n, by omega, rfl, hm, fun k hk hk2 hne => ?_⟩
        have hnj : lessI R n j < 0 := lessI_lt.2 (.inl hb)
        by_cases e : k = j
        · subst e; exact hnj
        · exact less_tr hnj (h3 k (by omega) hk2 e)
      · rw [if_neg hp]
        refine .inr ⟨j, by omega, rfl, h2, fun k hk hm hne => ?_⟩
        by_cases e : k = n
        · subst e
          rw [lessI_lt]
          have : ¬ R.getD k 0 < R.getD j 0 := fun h => hp (picks_eq.2 ⟨hm, .inr (by simpa using h)⟩)
          omega
        · exact h3 k (by omega) hm hne

structure RdOk (P : List (List Int)) (R : List Int) (n : Nat) (told rd : List Nat) : Prop where
  mem : ∀ i, i ∈ rd ↔ i < n ∧ may P told i
  sorted : rd.Pairwise fun a b => lessI R a b < 0
theorem best_cons {P : List (List Int)} {R : List Int} {n : Nat} {told rd : List Nat} {i : Nat} (h : RdOk P R n told (i :: rd)) : bestU P R (ofN told) n = i := by
  have hi := (h.mem i).1 (by simp)
  rcases best_is (P := P) (R := R) (told := told) n with ⟨_, h2⟩ | ⟨j, hj, h1, h2, h3⟩
  · exact absurd hi.2 (h2 i hi.1)
  · rw [h1]
    by_cases e : i = j
    · rw [e]
    · have k1 := h3 i hi.1 hi.2 e
      have hjm : j ∈ i :: rd := (h.mem j).2 ⟨hj, h2⟩
      rcases List.mem_cons.1 hjm with h4 | h4
      · exact absurd h4.symm e
      · have k2 := (List.pairwise_cons.1 h.sorted).1 j h4
        exact absurd (less_tr k1 k2) (less_irr j)
theorem best_nil {P : List (List Int)} {R : List Int} {n : Nat} {told : List Nat} (h : RdOk P R n told []) : bestU P R (ofN told) n = -1 := by
  rcases best_is (P := P) (R := R) (told := told) n with ⟨h1, _⟩ | ⟨j, hj, h1, h2, h3⟩
  · exact h1
  · have := (h.mem j).2 ⟨hj, h2⟩
    cases this
theorem refF_step {P : List (List Int)} {R : List Int} {n : Nat} {told rd : List Nat} {i : Nat} (h : RdOk P R n told (i :: rd)) (hl : told.length < n) :
    refF P R n (n - told.length) (ofN told) = refF P R n (n - (told ++ [i]).length) (ofN (told ++ [i])) := by
  obtain ⟨k, hk⟩ : ∃ k, n - told.length = k + 1 := ⟨n - told.length - 1, by omega⟩
  rw [hk, refF, best_cons h, if_neg (by omega)]
  rw [List.length_append, List.length_singleton, show n - (told.length + 1) = k from by omega, ofN, ofN, List.map_append]; rfl
theorem refF_stop {P : List (List Int)} {R : List Int} {n : Nat} {told : List Nat} (h : RdOk P R n told []) (hl : told.length < n) : refF P R n (n - told.length) (ofN told) = none := by
  obtain ⟨k, hk⟩ : ∃ k, n - told.length = k + 1 := ⟨n - told.length - 1, by omega⟩
  rw [hk, refF, best_nil h, if_pos (by decide)]

theorem filter_one {α : Type} {p q : α → Bool} {x : α} : ∀ {l : List α}, l.Nodup → x ∈ l → p x = true → q x = false → (∀ y, y ≠ x → p y = q y) → (l.filter p).length = (l.filter q).length + 1
  | [], _, h, _, _, _ => by cases h
  | y :: l, hn, h, hp, hq, he => by
    rw [List.nodup_cons] at hn
    have hsame : ∀ l : List α, x ∉ l → l.filter p = l.filter q := fun l hl => by
      refine List.filter_congr fun z hz => he z ?_
      rintro rfl; exact hl hz
    rcases List.mem_cons.1 h with rfl | h
    · rw [List.filter_cons, List.filter_cons, if_pos hp, if_neg (by rw [hq]; decide), hsame l hn.1]; rfl
    · have hyx : y ≠ x := by rintro rfl; exact hn.1 h
      have ih := filter_one hn.2 h hp hq he
      rw [List.filter_cons, List.filter_cons, he y hyx]
      split
      · simp only [List.length_cons]; omega
      · exact ih
def cnt (n : Nat) (r : List Int) (told : List Nat) : Nat := ((List.range n).filter fun p : Nat => decide ((p : Int) ∈ r) && !decide (p ∈ told)).length
theorem cnt_le (n : Nat) (r : List Int) (told : List Nat) : cnt n r told ≤ n := by
  have := List.length_filter_le (fun p : Nat => decide ((p : Int) ∈ r) && !decide (p ∈ told)) (List.range n)
  rw [List.length_range] at this
  exact this
theorem cnt_nil (n : Nat) (told : List Nat) : cnt n [] told = 0 := by simp [cnt]
theorem cnt_zero {n : Nat} {r : List Int} {told : List Nat} (hr : ∀ x ∈ r, inR n x = true) : cnt n r told = 0 ↔ (r.all fun x => decide (x ∈ ofN told)) = true := by
  rw [cnt, List.length_eq_zero_iff, List.filter_eq_nil_iff, List.all_eq_true]
  constructor
  · intro h x hx
    have h1 := hr x hx
    simp only [inR, Bool.and_eq_true, decide_eq_true_eq] at h1
    obtain ⟨p, rfl⟩ : ∃ p : Nat, x = p := ⟨x.toNat, by omega⟩
    have := h p (by rw [List.mem_range]; omega)
    simp only [Bool.and_eq_true, decide_eq_true_eq, Bool.not_eq_true', decide_eq_false_iff_not, not_and, Decidable.not_not] at this
    rw [decide_eq_true_iff, mem_ofN]
    exact this hx
  · intro h p hp hc
    simp only [Bool.and_eq_true, decide_eq_true_eq, Bool.not_eq_true', decide_eq_false_iff_not] at hc
    have := h _ hc.1
    rw [decide_eq_true_iff, mem_ofN] at this
    exact hc.2 this
theorem cnt_told {n : Nat} {r : List Int} {told : List Nat} {i : Nat} (hi : i < n) (hr : (i : Int) ∈ r) (ht : i ∉ told) : cnt n r told = cnt n r (told ++ [i]) + 1 := by
  refine filter_one List.nodup_range (List.mem_range.2 hi) ?_ ?_ (fun y hy => ?_)
  · simp [hr, ht]
  · simp
  · simp [hy]
theorem cnt_same {n : Nat} {r : List Int} {told : List Nat} {i : Nat} (hr : (i : Int) ∉ r) : cnt n r told = cnt n r (told ++ [i]) := by
  unfold cnt
  congr 1
  refine List.filter_congr fun y _ => ?_
  by_cases e : y = i
  · subst e; simp [hr]
  · simp [e]
theorem cnt_push {n x : Nat} {r : List Int} (hx : x < n) (hr : (x : Int) ∉ r) : cnt n (r ++ [(x : Int)]) [] = cnt n r [] + 1 := by
  refine filter_one List.nodup_range (List.mem_range.2 hx) ?_ ?_ (fun y hy => ?_)
  · simp
  · simp [hr]
  · have : ¬ (y : Int) = (x : Int) := by omega
    simp [this]
theorem cnt_again {n : Nat} {x : Int} {r : List Int} (hr : x ∈ r) : cnt n (r ++ [x]) [] = cnt n r [] := by
  unfold cnt
  congr 1
  refine List.filter_congr fun y _ => ?_
  by_cases e : (y : Int) = x
  · simp [e, hr]
  · simp [e]

theorem set_range {α : Type} (f : Nat → α) (n i : Nat) (v : α) : ((List.range n).map f).set i v = (List.range n).map fun j => if j = i then v else f j := by
  apply List.ext_getElem?
  intro k
  rw [List.getElem?_set, List.getElem?_map, List.getElem?_map, List.length_map, List.length_range]
  by_cases hk : k < n
  · rw [List.getElem?_range hk]
    by_cases e : i = k
    · subst e; simp [hk]
    · rw [if_neg e]; simp [Ne.symm e]
  · have : (List.range n)[k]? = none := by rw [List.getElem?_eq_none_iff, List.length_range]; omega
    rw [this]
    by_cases e : i = k
    · subst e; simp [hk]
    · simp [e]
theorem get_range {α : Type} (f : Nat → α) {n i : Nat} (h : i < n) : ((List.range n).map f)[i]? = some (f i) := by
  rw [List.getElem?_map, List.getElem?_range h]; rfl

def kidA (P : List (List Int)) (i : Nat) (r : List Int) (p : Nat) : List Nat := ((List.range i).filter fun j => decide ((p : Int) ∈ P.getD j [])) ++ (if (p : Int) ∈ r then [i] else [])
def wantA (P : List (List Int)) (n i : Nat) (r : List Int) (j : Nat) : Nat := if j < i then cnt n (P.getD j []) [] else if j = i then cnt n r [] else 0
theorem kidA_next {P : List (List Int)} {i : Nat} {r : List Int} (hr : P[i]? = some r) : kidA P (i + 1) [] = kidA P i r := by
  funext p
  unfold kidA
  rw [List.range_succ, List.filter_append, List.filter_cons, List.filter_nil, List.getD_eq_getElem?_getD, hr, Option.getD_some]
  by_cases h : (p : Int) ∈ r <;> simp [h]
theorem wantA_next {P : List (List Int)} {n i : Nat} {r : List Int} (hr : P[i]? = some r) : wantA P n (i + 1) [] = wantA P n i r := by
  funext j
  unfold wantA
  by_cases h1 : j < i
  · rw [if_pos (by omega), if_pos h1]
  · by_cases h2 : j = i
    · subst h2
      rw [if_pos (by omega), if_neg h1, if_pos rfl, List.getD_eq_getElem?_getD, hr]; rfl
    · rw [if_neg (by omega), if_neg h1, if_neg h2]
      split
      · exact cnt_nil _ _
      · rfl
theorem kidA_push {P : List (List Int)} {i x : Nat} {r : List Int} (hr : (x : Int) ∉ r) : kidA P i (r ++ [(x : Int)]) = fun p => if p = x then kidA P i r x ++ [i] else kidA P i r p := by
  funext p
  unfold kidA
  by_cases e : p = x
  · subst e; simp [hr]
  · have : ¬ (p : Int) = (x : Int) := by omega
    simp [e, this]
theorem kidA_again {P : List (List Int)} {i : Nat} {x : Int} {r : List Int} (hr : x ∈ r) : kidA P i (r ++ [x]) = kidA P i r := by
  funext p
  unfold kidA
  by_cases e : (p : Int) = x
  · simp [e, hr]
  · simp [e]
theorem wantA_push {P : List (List Int)} {n i x : Nat} {r : List Int} (hx : x < n) (hr : (x : Int) ∉ r) : wantA P n i (r ++ [(x : Int)]) = fun j => if j = i then wantA P n i r i + 1 else wantA P n i r j := by
  funext j
  unfold wantA
  by_cases h1 : j < i
  · simp [h1, show ¬ j = i from by omega]
  · by_cases h2 : j = i
    · subst h2
      simp [cnt_push hx hr]
    · simp [h1, h2]
theorem wantA_again {P : List (List Int)} {n i : Nat} {x : Int} {r : List Int} (hr : x ∈ r) : wantA P n i (r ++ [x]) = wantA P n i r := by
  funext j
  unfold wantA
  rw [cnt_again hr]
theorem kidA_len (P : List (List Int)) (i : Nat) (r : List Int) (p : Nat) : (kidA P i r p).length ≤ i + 1 := by
  have := List.length_filter_le (fun j : Nat => decide ((p : Int) ∈ P.getD j [])) (List.range i)
  rw [List.length_range] at this
  rw [kidA, List.length_append]
  split
  · rw [List.length_singleton]; omega
  · rw [List.length_nil]; omega

structure Mid (P : List (List Int)) (R : List Int) (n : Nat) (told : List Nat) (i : Nat) (kd rd : List Nat) (W : Nat → Nat) : Prop where
  mem : ∀ j, j ∈ rd ↔ j < n ∧ j ≠ i ∧ (may P told j ∨ (j ∈ kd ∧ may P (told ++ [i]) j))
  sorted : rd.Pairwise fun a b => lessI R a b < 0
  want : ∀ j, j < n → W j = cnt n (P.getD j []) (if j ∈ kd then told ++ [i] else told)
def AllIn (P : List (List Int)) (n : Nat) : Prop := ∀ j, ∀ x ∈ P.getD j [], inR n x = true
theorem mid_start {P : List (List Int)} {R : List Int} {n : Nat} {told rd : List Nat} {i : Nat} {W : Nat → Nat} (h : RdOk P R n told (i :: rd)) (hW : ∀ j, j < n → W j = cnt n (P.getD j []) told) : Mid P R n told i [] rd W where
  mem := fun j => by
    have h1 := h.mem j
    rw [List.mem_cons] at h1
    have hi : i ∉ rd := fun hm => less_irr i ((List.pairwise_cons.1 h.sorted).1 i hm)
    constructor
    · intro hj
      have := h1.1 (.inr hj)
      exact ⟨this.1, fun e => hi (e ▸ hj), .inl this.2⟩
    · rintro ⟨h2, h3, h4 | ⟨h4, _⟩⟩
      · rcases h1.2 ⟨h2, h4⟩ with h5 | h5
        · exact absurd h5 h3
        · exact h5
      · cases h4
  sorted := (List.pairwise_cons.1 h.sorted).2
  want := fun j hj => by rw [if_neg (by simp)]; exact hW j hj
theorem may_mono {P : List (List Int)} {told : List Nat} {i j : Nat} (hj : j ≠ i) (h : may P told j) : may P (told ++ [i]) j := by
  refine ⟨by simp [h.1, hj], ?_⟩
  have h2 := h.2
  rw [rdy, List.all_eq_true] at h2 ⊢
  intro x hx
  have := h2 x hx
  rw [decide_eq_true_iff] at this ⊢
  rw [ofN, List.map_append, List.mem_append]
  exact .inl this
theorem may_back {P : List (List Int)} {told : List Nat} {i j : Nat} (hk : (i : Int) ∉ P.getD j []) (h : may P (told ++ [i]) j) : may P told j := by
  refine ⟨fun hm => h.1 (by simp [hm]), ?_⟩
  have h2 := h.2
  rw [rdy, List.all_eq_true] at h2 ⊢
  intro x hx
  have := h2 x hx
  rw [decide_eq_true_iff] at this ⊢
  rw [ofN, List.map_append, List.mem_append] at this
  rcases this with h3 | h3
  · exact h3
  · exfalso
    simp at h3
    rw [h3] at hx; exact hk hx
theorem mid_end {P : List (List Int)} {R : List Int} {n : Nat} {told rd : List Nat} {i : Nat} {kd : List Nat} {W : Nat → Nat} (h : Mid P R n told i kd rd W) (hkd : ∀ j, j < n → (j ∈ kd ↔ (i : Int) ∈ P.getD j [])) :
    RdOk P R n (told ++ [i]) rd ∧ ∀ j, j < n → W j = cnt n (P.getD j []) (told ++ [i]) := by
  refine ⟨⟨fun j => ?_, h.sorted⟩, fun j hj => ?_⟩
  · rw [h.mem j]
    constructor
    · rintro ⟨h1, h2, h3 | ⟨_, h3⟩⟩
      · exact ⟨h1, may_mono h2 h3⟩
      · exact ⟨h1, h3⟩
    · rintro ⟨h1, h2⟩
      have hji : j ≠ i := by rintro rfl; exact h2.1 (by simp)
      refine ⟨h1, hji, ?_⟩
      by_cases hm : j ∈ kd
      · exact .inr ⟨hm, h2⟩
      · exact .inl (may_back (fun hc => hm ((hkd j h1).2 hc)) h2)
  · rw [h.want j hj]
    by_cases hm : j ∈ kd
    · rw [if_pos hm]
    · rw [if_neg hm]
      exact cnt_same (fun hc => hm ((hkd j hj).2 hc))
def placeOf (R : List Int) (rd : List Nat) (k : Nat) : Nat := (rd.takeWhile fun x => decide (lessI R x k < 0)).length
theorem place_le {R : List Int} {rd : List Nat} {k : Nat} : placeOf R rd k ≤ rd.length := by
  unfold placeOf
  exact (List.takeWhile_sublist _).length_le
theorem tw_take {p : Nat → Bool} : ∀ l : List Nat, l.take (l.takeWhile p).length = l.takeWhile p
  | [] => rfl
  | x :: l => by
    rw [List.takeWhile_cons]
    split
    · rw [List.length_cons, List.take_succ_cons, tw_take l]
    · rfl
theorem tw_mem {p : Nat → Bool} {x : Nat} : ∀ l : List Nat, x ∈ l.takeWhile p → p x = true
  | [], h => by cases h
  | y :: l, h => by
    rw [List.takeWhile_cons] at h
    split at h
    · rename_i hy
      rcases List.mem_cons.1 h with rfl | h
      · exact hy
      · exact tw_mem l h
    · cases h
theorem place_lt {R : List Int} {rd : List Nat} {k : Nat} : ∀ j x, j < placeOf R rd k → rd[j]? = some x → lessI R x k < 0 := fun j x hj hx => by
  have h1 : x ∈ rd.takeWhile fun x => decide (lessI R x k < 0) := by
    rw [← tw_take, List.mem_take_iff_getElem]
    obtain ⟨hl, rfl⟩ := List.getElem?_eq_some_iff.1 hx
    exact ⟨j, by unfold placeOf at hj; omega, rfl⟩
  simpa using tw_mem _ h1
theorem place_ge {R : List Int} {k : Nat} : ∀ {rd : List Nat}, rd.Pairwise (fun a b => lessI R a b < 0) → ∀ j x, placeOf R rd k ≤ j → rd[j]? = some x → ¬ lessI R x k < 0
  | [], _, j, x, _, hx => by simp at hx
  | y :: l, hs, j, x, hj, hx => by
    rw [List.pairwise_cons] at hs
    unfold placeOf at hj
    rw [List.takeWhile_cons] at hj
    by_cases hy : lessI R y k < 0
    · rw [if_pos (by simpa using hy)] at hj
      cases j with
      | zero => simp at hj
      | succ j =>
        rw [List.getElem?_cons_succ] at hx
        exact place_ge hs.2 j x (by unfold placeOf; simp at hj; omega) hx
    · cases j with
      | zero => simp at hx; subst hx; exact hy
      | succ j =>
        rw [List.getElem?_cons_succ] at hx
        intro h
        exact hy (less_tr (hs.1 x (List.mem_of_getElem? hx)) h)
def insAt (rd : List Nat) (m k : Nat) : List Nat := rd.take m ++ [k] ++ rd.drop m
theorem mem_insAt {rd : List Nat} {m k j : Nat} : j ∈ insAt rd m k ↔ j = k ∨ j ∈ rd := by
  unfold insAt
  conv => rhs; rw [← List.take_append_drop m rd]
  simp only [List.mem_append, List.mem_singleton]
  constructor
  · rintro ((h | h) | h)
    · exact .inr (.inl h)
    · exact .inl h
    · exact .inr (.inr h)
  · rintro (h | h | h)
    · exact .inl (.inr h)
    · exact .inl (.inl h)
    · exact .inr h
theorem ins_sorted {R : List Int} {rd : List Nat} {k : Nat} (hs : rd.Pairwise fun a b => lessI R a b < 0) (hk : k ∉ rd) : (insAt rd (placeOf R rd k) k).Pairwise fun a b => lessI R a b < 0 := by
  have h1 : ∀ x ∈ rd.take (placeOf R rd k), lessI R x k < 0 := fun x hx => by
    obtain ⟨j, hj, rfl⟩ := List.mem_take_iff_getElem.1 hx
    exact place_lt j _ (by omega) (List.getElem?_eq_getElem (by omega))
  have h2 : ∀ x ∈ rd.drop (placeOf R rd k), lessI R k x < 0 := fun x hx => by
    obtain ⟨j, hj⟩ := List.getElem?_of_mem hx
    rw [List.getElem?_drop] at hj
    have h3 := place_ge (k := k) hs _ x (by omega) hj
    exact less_tot h3 (by rintro rfl; exact hk (List.mem_of_mem_drop hx))
  unfold insAt
  rw [List.pairwise_append, List.pairwise_append]
  refine ⟨⟨hs.sublist (List.take_sublist _ _), List.pairwise_singleton _ _, fun a ha b hb => ?_⟩, hs.sublist (List.drop_sublist _ _), fun a ha b hb => ?_⟩
  · rw [List.mem_singleton] at hb; subst hb; exact h1 a ha
  · rw [List.mem_append, List.mem_singleton] at ha
    rcases ha with ha | rfl
    · exact less_tr (h1 a ha) (h2 b hb)
    · exact h2 b hb
theorem mid_kid {P : List (List Int)} {R : List Int} {n : Nat} {told rd : List Nat} {i k : Nat} {kd : List Nat} {W : Nat → Nat} (h : Mid P R n told i kd rd W) (hP : AllIn P n) (hcl : ∀ j ∈ told, rdy P told j = true) (hi : i < n) (hit : i ∉ told) (hii : may P told i) (hk : k < n) (hkk : k ∉ kd) (hpk : (i : Int) ∈ P.getD k []) :
    W k = cnt n (P.getD k []) (told ++ [i]) + 1 ∧ k ∉ rd ∧
    (cnt n (P.getD k []) (told ++ [i]) = 0 → Mid P R n told i (kd ++ [k]) (insAt rd (placeOf R rd k) k) (fun j => if j = k then cnt n (P.getD k []) (told ++ [i]) else W j)) ∧
    (cnt n (P.getD k []) (told ++ [i]) ≠ 0 → Mid P R n told i (kd ++ [k]) rd (fun j => if j = k then cnt n (P.getD k []) (told ++ [i]) else W j)) := by
  have hW := h.want k hk
  rw [if_neg hkk] at hW
  have hnm : ¬ may P told k := by
    rintro ⟨_, h2⟩
    rw [rdy, List.all_eq_true] at h2
    have := h2 _ hpk
    rw [decide_eq_true_iff, mem_ofN] at this
    exact hit this
  have hki : k ≠ i := by rintro rfl; exact hnm hii
  have hkt : k ∉ told := fun hm => by
    have h2 := hcl k hm
    rw [rdy, List.all_eq_true] at h2
    have := h2 _ hpk
    rw [decide_eq_true_iff, mem_ofN] at this
    exact hit this
  have hnr : k ∉ rd := fun hm => by
    rcases ((h.mem k).1 hm).2.2 with h3 | ⟨h3, _⟩
    · exact hnm h3
    · exact hkk h3
  have hwant : ∀ j, j < n → (if j = k then cnt n (P.getD k []) (told ++ [i]) else W j) = cnt n (P.getD j []) (if j ∈ kd ++ [k] then told ++ [i] else told) := fun j hj => by
    by_cases e : j = k
    · subst e; simp
    · rw [if_neg e, h.want j hj]
      simp [e]
  refine ⟨hW.trans (cnt_told hi hpk hit), hnr, fun h0 => ⟨fun j => ?_, ins_sorted h.sorted hnr, hwant⟩, fun h0 => ⟨fun j => ?_, h.sorted, hwant⟩⟩
  · have hr : rdy P (told ++ [i]) k = true := (cnt_zero (hP k)).1 h0
    rw [mem_insAt, h.mem j]
    constructor
    · rintro (rfl | ⟨h1, h2, h3 | ⟨h3, h4⟩⟩)
      · exact ⟨hk, hki, .inr ⟨by simp, ⟨by simp [hkt, hki], hr⟩⟩⟩
      · exact ⟨h1, h2, .inl h3⟩
      · exact ⟨h1, h2, .inr ⟨by simp [h3], h4⟩⟩
    · rintro ⟨h1, h2, h3 | ⟨h3, h4⟩⟩
      · exact .inr ⟨h1, h2, .inl h3⟩
      · rw [List.mem_append, List.mem_singleton] at h3
        rcases h3 with h3 | h3
        · exact .inr ⟨h1, h2, .inr ⟨h3, h4⟩⟩
        · exact .inl h3
  · have hr : ¬ rdy P (told ++ [i]) k = true := fun hr => h0 ((cnt_zero (hP k)).2 hr)
    rw [h.mem j]
    constructor
    · rintro ⟨h1, h2, h3 | ⟨h3, h4⟩⟩
      · exact ⟨h1, h2, .inl h3⟩
      · exact ⟨h1, h2, .inr ⟨by simp [h3], h4⟩⟩
    · rintro ⟨h1, h2, h3 | ⟨h3, h4⟩⟩
      · exact ⟨h1, h2, .inl h3⟩
      · rw [List.mem_append, List.mem_singleton] at h3
        rcases h3 with h3 | rfl
        · exact ⟨h1, h2, .inr ⟨h3, h4⟩⟩
        · exact absurd h4.2 hr
theorem closed_step {P : List (List Int)} {told : List Nat} {i : Nat} (hcl : ∀ j ∈ told, rdy P told j = true) (hii : may P told i) : ∀ j ∈ told ++ [i], rdy P (told ++ [i]) j = true := fun j hj => by
  have h2 : rdy P told j = true := by
    rw [List.mem_append, List.mem_singleton] at hj
    rcases hj with hj | rfl
    · exact hcl j hj
    · exact hii.2
  rw [rdy, List.all_eq_true] at h2 ⊢
  intro x hx
  have := h2 x hx
  rw [decide_eq_true_iff] at this ⊢
  rw [ofN, List.map_append, List.mem_append]
  exact .inl this

def cellsN (l : List Nat) : List (List AV) := (ofN l).map intCells
theorem cellsN_len (l : List Nat) : (cellsN l).length = l.length := by simp [cellsN, ofN]
theorem cellsN_one (l : List Nat) : ∀ e ∈ cellsN l, e.length = 1 := fun e he => by
  obtain ⟨d, _, rfl⟩ := List.mem_map.1 he; rfl
theorem cellsN_app (l : List Nat) (i : Nat) : cellsN l ++ [[.v (.int .i64 (i : Int))]] = cellsN (l ++ [i]) := by simp [cellsN, ofN, intCells]
structure Kids (H L : AHeap) (n bk bw : Nat) (ks : Nat → AV) (Kd : Nat → List Nat) (W : Nat → Nat) : Prop where
  ext : Ext H L
  k : L.get bk = some (.row 38 1 false ((List.range n).map fun p => [ks p]))
  w : L.get bw = some (.row 3 1 false ((List.range n).map fun j => intCells (W j : Nat)))
  nk : H.get bk = none
  nw : H.get bw = none
  held : ∀ p, p < n → HeldAt 3 1 L (cellsN (Kd p)) (ks p)
  fresh : ∀ p b m, p < n → ks p = .row b 1 m → H.get b = none ∧ b ≠ bw
  dist : ∀ p p' b m m', p < n → p' < n → ks p = .row b 1 m → ks p' = .row b 1 m' → p = p'
structure Apart (H : AHeap) (n bk bw : Nat) (ks : Nat → AV) (x : Nat) : Prop where
  ak : x ≠ bk
  aw : x ≠ bw
  an : H.get x = none
  aks : ∀ p m, p < n → ks p ≠ .row x 1 m
section
variable {H L L' : AHeap} {n bk bw x : Nat} {ks : Nat → AV} {Kd : Nat → List Nat} {W : Nat → Nat}
theorem Kids.at_ (h : Kids H L n bk bw ks Kd W) {p b m : Nat} (hp : p < n) (e : ks p = .row b 1 m) : L.get b = some (.row 3 1 false (cellsN (Kd p))) ∧ m = (Kd p).length := by
  rcases h.held p hp with h1 | ⟨b', h1, h2⟩
  · rw [h1] at e; cases e
  · rw [h1] at e; cases e
    exact ⟨h2, cellsN_len _⟩
theorem Kids.apart (h : Kids H L n bk bw ks Kd W) (hx : L.get x = none) : Apart H n bk bw ks x where
  ak := by rintro rfl; rw [h.k] at hx; cases hx
  aw := by rintro rfl; rw [h.w] at hx; cases hx
  an := none_of_ext h.ext hx
  aks := fun p m hp e => by rw [(h.at_ hp e).1] at hx; cases hx
theorem Kids.apartO (h : Kids H L n bk bw ks Kd W) {o : AObj} (hx : L.get x = some o) (ho : ∀ T sz sn es, o ≠ .row T sz sn es) (hn : H.get x = none) : Apart H n bk bw ks x where
  ak := by rintro rfl; rw [h.k] at hx; cases hx; exact ho _ _ _ _ rfl
  aw := by rintro rfl; rw [h.w] at hx; cases hx; exact ho _ _ _ _ rfl
  an := hn
  aks := fun p m hp e => by rw [(h.at_ hp e).1] at hx; cases hx; exact ho _ _ _ _ rfl
theorem Kids.keep (h : Kids H L n bk bw ks Kd W) (hx : Apart H n bk bw ks x) (hL : ∀ c o, L.get c = some o → c ≠ x → L'.get c = some o) : Kids H L' n bk bw ks Kd W where
  ext := fun c o hc => hL c o (h.ext c o hc) (by rintro rfl; rw [hx.an] at hc; cases hc)
  k := hL _ _ h.k (Ne.symm hx.ak)
  w := hL _ _ h.w (Ne.symm hx.aw)
  nk := h.nk
  nw := h.nw
  held := fun p hp => by
    rcases h.held p hp with h1 | ⟨b, h1, h2⟩
    · exact .inl h1
    · exact .inr ⟨b, h1, hL _ _ h2 (by rintro rfl; exact hx.aks p _ hp h1)⟩
  fresh := h.fresh
  dist := h.dist
theorem Kids.more (h : Kids H L n bk bw ks Kd W) (hL : Ext L L') : Kids H L' n bk bw ks Kd W where
  ext := fun c o hc => hL c o (h.ext c o hc)
  k := hL _ _ h.k
  w := hL _ _ h.w
  nk := h.nk
  nw := h.nw
  held := fun p hp => by
    rcases h.held p hp with h1 | ⟨b, h1, h2⟩
    · exact .inl h1
    · exact .inr ⟨b, h1, hL _ _ h2⟩
  fresh := h.fresh
  dist := h.dist
theorem Kids.wset (h : Kids H L n bk bw ks Kd W) (i v : Nat) : Kids H (L.put bw (.row 3 1 false (((List.range n).map fun j => intCells (W j : Nat)).set i (intCells (v : Nat))))) n bk bw ks Kd (fun j => if j = i then v else W j) where
  ext := fun c o hc => by
    rw [AHeap.get_put, if_neg (by rintro rfl; rw [h.nw] at hc; cases hc)]
    exact h.ext c o hc
  k := by
    rw [AHeap.get_put, if_neg (by rintro e; have := h.k; rw [e, h.w] at this; cases this)]
    exact h.k
  w := by
    rw [AHeap.get_put_same, set_range]
    congr 3
    funext j
    by_cases e : j = i <;> simp [e]
  nk := h.nk
  nw := h.nw
  held := fun p hp => by
    rcases h.held p hp with h1 | ⟨b, h1, h2⟩
    · exact .inl h1
    · exact .inr ⟨b, h1, by rw [AHeap.get_put, if_neg (h.fresh p b _ hp h1).2]; exact h2⟩
  fresh := h.fresh
  dist := h.dist
theorem Kids.kset (h : Kids H L n bk bw ks Kd W) {p i b' : Nat} (hp : p < n) (hb : L'.get b' = some (.row 3 1 false (cellsN (Kd p ++ [i]))))
    (hL : ∀ c o, L.get c = some o → (∀ b, ks p = .row b 1 (cellsN (Kd p)).length → c ≠ b) → L'.get c = some o ∧ c ≠ b') :
    Kids H (L'.put bk (.row 38 1 false (((List.range n).map fun p => [ks p]).set p [.row b' 1 (cellsN (Kd p ++ [i])).length]))) n bk bw (fun q => if q = p then .row b' 1 (cellsN (Kd p ++ [i])).length else ks q) (fun q => if q = p then Kd p ++ [i] else Kd q) W ∧
    ∀ c o, L.get c = some o → (∀ T sz sn es, o ≠ .row T sz sn es) → (L'.put bk (.row 38 1 false (((List.range n).map fun p => [ks p]).set p [.row b' 1 (cellsN (Kd p ++ [i])).length]))).get c = some o := by
  have hk := h.k
  have hw := h.w
  have hkeep : ∀ c o, L.get c = some o → (∀ b m, ks p = .row b 1 m → c ≠ b) → L'.get c = some o ∧ c ≠ b' := fun c o hc hn => hL c o hc (fun b e => hn b _ e)
  have hbk : ∀ b m, ks p = .row b 1 m → bk ≠ b := fun b m e => by rintro rfl; rw [(h.at_ hp e).1] at hk; cases hk
  have hbw : ∀ b m, ks p = .row b 1 m → bw ≠ b := fun b m e => Ne.symm (h.fresh p b m hp e).2
  have kk := hkeep bk _ hk hbk
  have kw := hkeep bw _ hw hbw
  have hkw : bw ≠ bk := by rintro rfl; rw [hk] at hw; cases hw
  have hH : ∀ c o, H.get c = some o → L'.get c = some o ∧ c ≠ b' := fun c o hc => hkeep c o (h.ext c o hc) (fun b m e => by rintro rfl; rw [(h.fresh p _ m hp e).1] at hc; cases hc)
  have hb'n : H.get b' = none := by
    cases e : H.get b' with
    | none => rfl
    | some o => exact absurd rfl (hH b' o e).2
  have hoth : ∀ q b m, q < n → q ≠ p → ks q = .row b 1 m → L'.get b = some (.row 3 1 false (cellsN (Kd q))) ∧ b ≠ b' := fun q b m hq hne e =>
    hkeep b _ (h.at_ hq e).1 (fun b2 m2 e2 => by rintro rfl; exact hne (h.dist q p _ _ _ hq hp e e2))
  have hob : ∀ b es, L'.get b = some (.row 3 1 false es) → b ≠ bk := fun b es e => by rintro rfl; rw [kk.1] at e; cases e
  refine ⟨⟨fun c o hc => ?_, ?_, ?_, h.nk, h.nw, fun q hq => ?_, fun q b m hq e => ?_, fun q q' b m m' hq hq' e e' => ?_⟩, fun c o hc ho => ?_⟩
  · rw [AHeap.get_put, if_neg (by rintro rfl; rw [h.nk] at hc; cases hc)]
    exact (hH c o hc).1
  · rw [AHeap.get_put_same, set_range]
    congr 3
    funext j
    by_cases e : j = p <;> simp [e]
  · rw [AHeap.get_put, if_neg hkw]; exact kw.1
  · by_cases e : q = p
    · rw [if_pos e, if_pos e]
      exact .inr ⟨b', rfl, by rw [AHeap.get_put, if_neg (hob _ _ hb)]; exact hb⟩
    · rw [if_neg e, if_neg e]
      rcases h.held q hq with h1 | ⟨b, h1, h2⟩
      · exact .inl h1
      · have := (hoth q b _ hq e h1).1
        exact .inr ⟨b, h1, by rw [AHeap.get_put, if_neg (hob _ _ this)]; exact this⟩
  · skip
    by_cases e1 : q = p
    · rw [if_pos e1] at e; cases e
      exact ⟨hb'n, Ne.symm kw.2⟩
    · rw [if_neg e1] at e
      exact h.fresh q b m hq e
  · skip
    by_cases e1 : q = p
    · by_cases e2 : q' = p
      · rw [e1, e2]
      · rw [if_pos e1] at e; cases e
        rw [if_neg e2] at e'
        exact absurd rfl (hoth q' _ _ hq' e2 e').2
    · rw [if_neg e1] at e
      by_cases e2 : q' = p
      · rw [if_pos e2] at e'; cases e'
        exact absurd rfl (hoth q _ _ hq e1 e).2
      · rw [if_neg e2] at e'
        exact h.dist q q' b m m' hq hq' e e'
  · rw [AHeap.get_put, if_neg (by rintro rfl; rw [hk] at hc; cases hc; exact ho _ _ _ _ rfl)]
    exact (hkeep c o hc (fun b m e => by rintro rfl; rw [(h.at_ hp e).1] at hc; cases hc; exact ho _ _ _ _ rfl)).1
theorem range_const {α : Type} (a : α) (n : Nat) : List.replicate n a = (List.range n).map fun _ => a := by
  rw [List.map_const', List.length_range]
theorem kids_start {P : List (List Int)} (hE : Ext H L) (hk : L.get bk = none) {r : AHeap} (hr : r = L.put bk (.row 38 1 false (List.replicate ((n : Int).toNat) [.sl true []]))) (hw : r.get bw = none) :
    Kids H (r.put bw (.row 3 1 false (List.replicate ((n : Int).toNat) [.v (.int .i64 0)]))) n bk bw (fun _ => .sl true []) (kidA P 0 []) (wantA P n 0 []) where
  ext := fun c o hc => by
    subst hr
    exact get_fresh (get_fresh (hE c o hc) hk) hw
  k := by
    subst hr
    rw [get_fresh (AHeap.get_put_same _ _ _) hw, Int.toNat_natCast, range_const]
  w := by
    rw [AHeap.get_put_same, Int.toNat_natCast, range_const]
    congr 3
    funext j
    have : wantA P n 0 [] j = 0 := by
      unfold wantA
      rw [if_neg (by omega), cnt_nil]; simp
    rw [this]; rfl
  nk := none_of_ext hE hk
  nw := by
    subst hr
    exact none_of_ext hE (none_fresh hw)
  held := fun p _ => .inl rfl
  fresh := fun p b m _ e => by cases e
  dist := fun p p' b m m' _ _ e => by cases e
theorem wantA_all {P : List (List Int)} (hn : P.length = n) : wantA P n n [] = fun j => cnt n (P.getD j []) [] := by
  funext j
  unfold wantA
  by_cases h1 : j < n
  · rw [if_pos h1]
  · rw [if_neg h1]
    have : P.getD j [] = [] := by rw [List.getD_eq_getElem?_getD, List.getElem?_eq_none (by omega)]; rfl
    rw [this, cnt_nil]; simp
def kidsOf (P : List (List Int)) (n p : Nat) : List Nat := (List.range n).filter fun j => decide ((p : Int) ∈ P.getD j [])
theorem kidA_all {P : List (List Int)} : kidA P n [] = kidsOf P n := by
  funext p
  simp [kidA, kidsOf]
def Own (H L : AHeap) (n bk bw : Nat) (ks : Nat → AV) (l : List Nat) (a : AV) : Prop :=
  (a = .sl true [] ∧ l = []) ∨ ∃ b, a = .row b 1 l.length ∧ L.get b = some (.row 3 1 false (cellsN l)) ∧ Go.Proofs.YtcpfgjfiacfmoaaGreatDoor.Apart H n bk bw ks b
theorem Own.held {l : List Nat} {a : AV} (h : Own H L n bk bw ks l a) : HeldAt 3 1 L (cellsN l) a := by
  rcases h with ⟨rfl, rfl⟩ | ⟨b, rfl, h2, _⟩
  · exact .inl rfl
  · exact .inr ⟨b, by rw [cellsN_len], h2⟩
theorem Own.rowAt {l : List Nat} {a : AV} (h : Own H L n bk bw ks l a) : RowAt 3 1 H L ((ofN l).map intCells) a := by
  rcases h with ⟨rfl, rfl⟩ | ⟨b, rfl, h2, h3⟩
  · exact .inl ⟨rfl, rfl⟩
  · exact .inr ⟨b, h3.an, by rw [show ((ofN l).map intCells).length = l.length from cellsN_len l], h2⟩
theorem Own.keep {l : List Nat} {a : AV} (h : Own H L n bk bw ks l a) (hL : ∀ c o, L.get c = some o → c ≠ x → L'.get c = some o) (hx : ∀ m, a ≠ .row x 1 m) : Own H L' n bk bw ks l a := by
  rcases h with h | ⟨b, rfl, h2, h3⟩
  · exact .inl h
  · exact .inr ⟨b, rfl, hL _ _ h2 (by rintro rfl; exact hx _ rfl), h3⟩
theorem Kids.push (h : Kids H L n bk bw ks Kd W) {l : List Nat} {a : AV} (ha : Own H L n bk bw ks l a) {i b' : Nat} (hb : L'.get b' = some (.row 3 1 false (cellsN (l ++ [i]))))
    (hL : ∀ c o, L.get c = some o → (∀ b, a = .row b 1 (cellsN l).length → c ≠ b) → L'.get c = some o ∧ c ≠ b') :
    Kids H L' n bk bw ks Kd W ∧ Own H L' n bk bw ks (l ++ [i]) (.row b' 1 (cellsN (l ++ [i])).length) ∧ ∀ c o, L.get c = some o → (∀ m, a ≠ .row c 1 m) → L'.get c = some o ∧ c ≠ b' := by
  have hkeep : ∀ c o, L.get c = some o → (∀ m, a ≠ .row c 1 m) → L'.get c = some o ∧ c ≠ b' := fun c o hc hn => hL c o hc (fun b e => by rintro rfl; exact hn _ e)
  have hap : ∀ c m, a = .row c 1 m → Go.Proofs.YtcpfgjfiacfmoaaGreatDoor.Apart H n bk bw ks c := fun c m e => by
    rcases ha with ⟨rfl, _⟩ | ⟨b, rfl, _, h3⟩
    · cases e
    · cases e; exact h3
  refine ⟨?_, .inr ⟨b', by rw [cellsN_len], hb, ?_⟩, hkeep⟩
  · rcases ha with ⟨rfl, _⟩ | ⟨b, rfl, _, h3⟩
    · exact h.more (fun c o hc => (hkeep c o hc (fun m e => by cases e)).1)
    · exact h.keep h3 (fun c o hc hne => (hkeep c o hc (fun m e => by cases e; exact hne rfl)).1)
  · refine ⟨Ne.symm (hkeep bk _ h.k (fun m e => (hap _ _ e).ak rfl)).2, Ne.symm (hkeep bw _ h.w (fun m e => (hap _ _ e).aw rfl)).2, ?_, fun p m hp e => ?_⟩
    · cases e : H.get b' with
      | none => rfl
      | some o => exact absurd rfl (hkeep b' o (h.ext _ _ e) (fun m e2 => by rw [(hap _ _ e2).an] at e; cases e)).2
    · exact absurd rfl (hkeep b' _ (h.at_ hp e).1 (fun m e2 => (hap _ _ e2).aks p _ hp e)).2
theorem Own.sortB {l : List Nat} {a : AV} (h : Own H L n bk bw ks l a) : (a = .sl true [] ∧ cellsN l = []) ∨ ∃ b, a = .row b 1 (cellsN l).length ∧ L.get b = some (.row 3 1 false (cellsN l)) := by
  rcases h with ⟨rfl, rfl⟩ | ⟨b, rfl, h2, _⟩
  · exact .inl ⟨rfl, rfl⟩
  · exact .inr ⟨b, by rw [cellsN_len], h2⟩
def Due (H L : AHeap) (n bk bw : Nat) (ks : Nat → AV) (aO : AV) (rd : List Nat) (a : AV) : Prop :=
  ∃ b pre, a = .vw b 1 pre.length rd.length ∧ L.get b = some (.row 3 1 false (pre ++ cellsN rd)) ∧ Go.Proofs.YtcpfgjfiacfmoaaGreatDoor.Apart H n bk bw ks b ∧ ∀ m, aO ≠ .row b 1 m
theorem Due.arr {rd : List Nat} {a aO : AV} (h : Due H L n bk bw ks aO rd a) : Arr L (ofN rd) a := by
  obtain ⟨b, pre, rfl, h2, _⟩ := h
  exact .inr (.inr ⟨b, false, pre, by rw [show (ofN rd).length = rd.length from by simp [ofN]], h2⟩)
theorem Kids.arr (h : Kids H L n bk bw ks Kd W) {p : Nat} (hp : p < n) : Arr L (ofN (Kd p)) (ks p) := by
  rcases h.held p hp with h1 | ⟨b, h1, h2⟩
  · exact .inl ⟨true, h1⟩
  · exact .inr (.inl ⟨b, false, by rw [h1, cellsN_len]; simp [ofN], h2⟩)
theorem sort_swo (R : List Int) (rd : List Nat) (k : Nat) : Swo k (fun i j => lessI R (rd.getD i 0) (rd.getD j 0)) :=
  ⟨fun i _ => less_irr _, fun i j l _ _ _ => less_tr, fun i j l _ _ _ => less_ntr⟩
theorem perm_get {rd p : List Nat} (hp : p.Perm (List.range rd.length)) : (p.map fun i => rd.getD i 0).Perm rd := by
  have := hp.map fun i => rd.getD i 0
  have e : ((List.range rd.length).map fun i => rd.getD i 0) = rd := by
    apply List.ext_getElem?
    intro k
    rw [List.getElem?_map]
    by_cases hk : k < rd.length
    · rw [List.getElem?_range hk, List.getElem?_eq_getElem hk]; simp [hk]
    · rw [List.getElem?_eq_none (by simp; omega), List.getElem?_eq_none (by omega)]; rfl
  rwa [e] at this
theorem perm_cells {rd p : List Nat} (hp : p.Perm (List.range (cellsN rd).length)) : (p.map fun i => (cellsN rd).getD i []) = cellsN (p.map fun i => rd.getD i 0) := by
  rw [show cellsN (p.map fun i => rd.getD i 0) = p.map fun i => intCells (rd.getD i 0 : Nat) by simp [cellsN, ofN]]
  refine List.map_congr_left fun i hi => ?_
  have := hp.mem_iff.1 hi
  rw [List.mem_range, cellsN_len] at this
  simp [cellsN, ofN, this]
theorem sorted_rd {P : List (List Int)} {R : List Int} {rd p : List Nat} (hmem : ∀ i, i ∈ rd ↔ i < n ∧ may P [] i) (hnd : rd.Nodup) (hp : p.Perm (List.range (cellsN rd).length))
    (hs : ∀ i j a d : Nat, i < j → p[i]? = some a → p[j]? = some d → ¬ lessI R (rd.getD d 0) (rd.getD a 0) < 0) : RdOk P R n [] (p.map fun i => rd.getD i 0) := by
  rw [cellsN_len] at hp
  have h1 := perm_get hp
  refine ⟨fun i => by rw [h1.mem_iff]; exact hmem i, ?_⟩
  have h2 : (p.map fun i => rd.getD i 0).Nodup := h1.nodup_iff.2 hnd
  rw [List.pairwise_iff_getElem]
  intro i j hi hj hij
  rw [List.nodup_iff_pairwise_ne, List.pairwise_iff_getElem] at h2
  have h3 := h2 i j hi hj hij
  rw [List.length_map] at hi hj
  have h4 := hs i j _ _ hij (List.getElem?_eq_getElem hi) (List.getElem?_eq_getElem hj)
  rw [List.getElem_map, List.getElem_map] at h3 ⊢
  exact less_tot h4 (Ne.symm h3)
def rem (n : Nat) (told : List Nat) : Nat := ((List.range n).filter fun j => !decide (j ∈ told)).length
theorem rem_nil : rem n [] = n := by
  unfold rem
  rw [List.filter_eq_self.2 (by simp), List.length_range]
theorem rem_step {told : List Nat} {i : Nat} (hi : i < n) (ht : i ∉ told) : rem n told = rem n (told ++ [i]) + 1 := by
  refine filter_one List.nodup_range (List.mem_range.2 hi) ?_ ?_ (fun y hy => ?_)
  · simp [ht]
  · simp
  · simp [hy]
def DueN (H L : AHeap) (n bk bw : Nat) (ks : Nat → AV) (aO : AV) (rd : List Nat) (a : AV) : Prop := (a = .sl true [] ∧ rd = []) ∨ Due H L n bk bw ks aO rd a
theorem DueN.len {rd : List Nat} {a aO : AV} (h : DueN H L n bk bw ks aO rd a) (M : AHeap) : lenK M (.sl 3 (some 1)) a = some (.v (.int .i64 rd.length)) := by
  rcases h with ⟨rfl, rfl⟩ | ⟨b, pre, rfl, _⟩ <;> rfl
theorem vr_view {F : Addr → Value → Prop} {S : Nat → Nat → Prop} {x : Value} {b sz m : Nat} (h : VR F S x (.row b sz m)) : VR F S x (.vw b sz 0 m) := by
  cases h with
  | row hs hc hn => exact .vw hs (by rw [Nat.zero_add]; exact hc) hn (fun _ => (Nat.zero_mul _).symm)
theorem AWp_due {N : NR} {c : Code} {Q : Exit → AFr → AHeap → Prop} {fr : AFr} { t : Nat} {rd : List Nat} {a : AV} (ht : AFr.get t fr = a) (hO : Own H L n bk bw ks rd a)
    (h : ∀ a', DueN H L n bk bw ks (.sl true []) rd a' → AWp X N c Q ((t, a') :: fr) L) : AWp X N c Q fr L := by
  rcases hO with ⟨rfl, rfl⟩ | ⟨b, rfl, h2, h3⟩
  · refine AWp_weaken (h (.sl true []) (.inl ⟨rfl, rfl⟩)) (fun F S x hx k => ?_) (fun _ _ h => h)
    simp only [AFr.get]
    split
    · rename_i e; subst e; rw [← ht]; exact hx _
    · exact hx k
  · refine AWp_weaken (h (.vw b 1 0 rd.length) (.inr ⟨b, [], rfl, h2, h3, fun m e => by cases e⟩)) (fun F S x hx k => ?_) (fun _ _ h => h)
    simp only [AFr.get]
    split
    · rename_i e; subst e; have := hx t; rw [ht] at this; exact vr_view this
    · exact hx k
theorem Due.keep {rd : List Nat} {a aO : AV} (h : Due H L n bk bw ks aO rd a) (hL : ∀ c o, L.get c = some o → Go.Proofs.YtcpfgjfiacfmoaaGreatDoor.Apart H n bk bw ks c → (∀ m, aO ≠ .row c 1 m) → L'.get c = some o) : Due H L' n bk bw ks aO rd a := by
  obtain ⟨b, pre, e, h2, h3, h4⟩ := h
  exact ⟨b, pre, e, hL _ _ h2 h3 h4, h3, h4⟩
theorem nodup_rem : ∀ {l : List Nat}, l.Nodup → (∀ x ∈ l, x < n) → l.length + rem n l = n
  | [], _, _ => by rw [rem_nil]; simp
  | x :: l, hn, h => by
    rw [List.nodup_cons] at hn
    have ih := nodup_rem hn.2 (fun y hy => h y (by simp [hy]))
    have : rem n l = rem n (x :: l) + 1 := by
      refine filter_one List.nodup_range (List.mem_range.2 (h x (by simp))) ?_ ?_ (fun y hy => ?_)
      · simp [hn.1]
      · simp
      · simp [hy]
    rw [List.length_cons]; omega
theorem sorted_len {R : List Int} {rd : List Nat} (hs : rd.Pairwise fun a b => lessI R a b < 0) (h : ∀ x ∈ rd, x < n) : rd.length ≤ n := by
  have hn : rd.Nodup := hs.imp (fun {a b} hab e => by subst e; exact less_irr a hab)
  have := nodup_rem hn h
  omega
theorem cellsN_ins (rd : List Nat) (m k : Nat) : (cellsN rd).take m ++ [[.v (.int .i64 (k : Int))]] ++ (cellsN rd).drop m = cellsN (insAt rd m k) := by
  simp [cellsN, ofN, insAt, intCells]
theorem insAt_len (rd : List Nat) (m k : Nat) (h : m ≤ rd.length) : (insAt rd m k).length = rd.length + 1 := by
  simp [insAt]; omega
theorem Own.block {l : List Nat} {a : AV} (h : Own H L n bk bw ks l a) {b : Nat} (hb : L.get b = none) (m : Nat) : a ≠ .row b 1 m := fun e => by
  rcases h with ⟨rfl, _⟩ | ⟨b', rfl, h2, _⟩
  · cases e
  · cases e; rw [h2] at hb; cases hb
end
end Go.Proofs.YtcpfgjfiacfmoaaGreatDoor
