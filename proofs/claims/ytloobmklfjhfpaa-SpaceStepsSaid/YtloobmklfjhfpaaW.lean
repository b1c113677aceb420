/-
  The contract of Walk.
-/
import Derived.Test.YtloobmklfjhfpaaP
set_option linter.unusedSimpArgs false
set_option linter.unusedVariables false
set_option maxRecDepth 100000
namespace Go.Proofs.Ytloobmklfjhfpaa
open Go Go.AL
attribute [local irreducible] AOps AWp SOps AE AT ACall AApp

def seenT (out : List Step) : List (List UInt8 × AV) := out.map fun c => (c.id, .v (.bool true))
theorem seenT_find (x : Step) : ∀ out : List Step, kfind x.id (seenT out) = if seenS x out then some (.v (.bool true)) else none
  | [] => rfl
  | c :: out => by
    have := seenT_find x out
    simp only [seenT, seenS, List.map_cons, kfind, List.any_cons] at this ⊢
    by_cases e : c.id = x.id
    · simp [e]
    · simp only [e, if_false, decide_false, Bool.false_or]; exact this
theorem seenT_put (c : Step) : ∀ out : List Step, seenS c out = false → kput c.id (.v (.bool true)) (seenT out) = seenT (out ++ [c])
  | [], _ => rfl
  | d :: out, h => by
    simp only [seenS, List.any_cons, Bool.or_eq_false_iff, decide_eq_false_iff_not] at h
    have := seenT_put c out h.2
    simp only [seenT, List.map_cons, List.cons_append, kput] at this ⊢
    rw [if_neg h.1, this]
def pushed (x : Step) (cs : List Child) (n : Nat) : List Step := (cs.drop n).reverse.map (pushC x)
theorem pushed_step {x : Step} {cs : List Child} {n : Nat} {c : Child} (h : cs[n]? = some c) : pushed x cs n = pushed x cs (n + 1) ++ [pushC x c] := by
  obtain ⟨hn, rfl⟩ := List.getElem?_eq_some_iff.1 h
  unfold pushed
  rw [List.drop_eq_getElem_cons hn, List.reverse_cons, List.map_append]; rfl
/-- two rows lie apart -/
def Apart (o s : AV) : Prop := ∀ b n k, s = .row b 3 n → o ≠ .row b 3 k

def cutD (deep : Int) : Int := if 10 < if 0 < deep then deep else 0 then 10 else if 0 < deep then deep else 0
theorem cutD_le (d : Int) : 0 ≤ cutD d ∧ cutD d ≤ 10 := by unfold cutD; split <;> split <;> omega
theorem cutD_eq (d : Int) : cutD d = min (max 0 d) 10 := by unfold cutD; split <;> split <;> omega
def walkR (l : List Space) (root : List UInt8) (deep limit : Int) : List Step × Bool :=
  if limit < 1 then ([], false) else walkF l (cutD deep) limit (limit.toNat * 11 + 2) [⟨root, [], 0⟩] []
/-- what holds of memory at each round of a walk: B the stack's variable, ms what was seen, mi the spaces by name -/
structure WMem (l : List Space) (H : AHeap) (B ms mi : Nat) (st os : List Step) (sv o : AV) (M : AHeap) : Prop where
  ext : Ext H M
  box : M.get B = some (.box 31 [sv])
  seen : M.get ms = some (.smap (seenT os))
  idx : M.get mi = some (.smap (idxE l))
  held : HeldAt 35 3 M (st.map Step.cells) sv
  fresh : ∀ b n, sv = .row b 3 n → H.get b = none
  row : RowAt 35 3 H M (os.map Step.cells) o
  apart : Apart o sv

set_option maxHeartbeats 2000000 in
theorem walk_c (hS : SortsAt X.P 15 2 mkAgg) (t : Bool) (l : List Space) (hl : l.length ≤ 1000) (hC : ∀ s ∈ l, s.kids.length ≤ 10) (hO : ∀ s ∈ l, ∀ c ∈ s.kids, c.ord.length < 4294967281) (root : List UInt8) (deep limit : Int)
    (hdp : -9223372036854775808 ≤ deep ∧ deep < 9223372036854775808) (hlim : -9223372036854775808 ≤ limit ∧ limit < 9223372036854775808) (H : AHeap) (Kc : AV → AHeap → Prop)
    (h : Kc (.tup [.sl false ((walkR l root deep limit).1.map Step.cells), .v (.bool (walkR l root deep limit).2)]) H) :
    ACall X 11 [.sl t (l.map Space.cells), .s root, .v (.int .i64 deep), .v (.int .i64 limit)] H Kc := by
  obtain ⟨R, hR0⟩ : ∃ R, walkR l root deep limit = R := ⟨_, rfl⟩
  rw [hR0] at h
  refine ACall.grP (e := 35) (sz := 3) h ?_
  clear h
  refine ACall_intro Try.func11 rfl (by kernel_rfl) (by rw [Try.ntmps11]; simp) ?_; rw [Try.ntmps11]; simp only [frame0, Nat.reduceAdd]
  (repeat' (first | (refine AWp_seq_k (fun K hK => ?_)) | (apply s_region) | (apply s_q; (first | decide | (dsimp only; decide)); rfl; (solve | (simp only [go_sem]; try rfl))) | (apply s_nil; try simp only [AThen, ABlock]; try (first | (refine hK _ _ ?_; clear hK K) | (clear hK K; refine hK _ _ ?_; clear hK K) | (clear hK K; clear hK K; refine hK _ _ ?_; clear hK K))) | (apply AWp_block) | (apply AWp_skip; try simp only [AThen, ABlock]; try (first | (refine hK _ _ ?_; clear hK K) | (clear hK K; refine hK _ _ ?_; clear hK K) | (clear hK K; clear hK K; refine hK _ _ ?_; clear hK K))) | (apply AWp_exit; simp only [AThen, ABlock, reduceIte, Nat.reduceEqDiff]; try (first | (refine hK _ _ ?_; clear hK K) | (clear hK K; refine hK _ _ ?_; clear hK K) | (clear hK K; clear hK K; refine hK _ _ ?_; clear hK K))) | (apply AWp_ret; try simp only [AThen, ABlock]; apply end_ret; rfl; try simp only [AFr.get, reduceIte, Nat.reduceEqDiff]) | (apply s_store; (solve | (simp only [go_sem]; try rfl)); (solve | (simp only [go_sem]; try rfl)); (solve | (simp only [go_sem]; try rfl))) | (apply s_mapput; (solve | (simp only [go_sem]; try rfl)); (solve | (simp only [go_sem]; try rfl)); (solve | (simp only [go_sem]; try rfl)); (solve | (simp only [go_sem]; try rfl))) | (apply s_alloc; (first | decide | (dsimp only; decide)); (first | exact zc_31 | exact zc_35 | exact zc_42); intro b hb) | (apply s_smap; (first | decide | (dsimp only; decide)); exact mp_43; intro b hb) | (apply s_lit; (first | decide | (dsimp only; decide)); exact el_31; (solve | (simp only [go_sem]; try rfl)); (solve | (simp only [go_sem]; try rfl)); decide)))
  refine cond_split (by simp only [go_sem]; try rfl) (fun hc => ?_) (fun hc => ?_)
  · have hc : limit < 1 := by simpa using hc
    rw [walkR, if_pos hc] at hR0
    subst hR0
    (repeat' (first | (refine AWp_seq_k (fun K hK => ?_)) | (apply s_region) | (apply s_q; (first | decide | (dsimp only; decide)); rfl; (solve | (simp only [go_sem]; try rfl))) | (apply s_nil; try simp only [AThen, ABlock]; try (first | (refine hK _ _ ?_; clear hK K) | (clear hK K; refine hK _ _ ?_; clear hK K) | (clear hK K; clear hK K; refine hK _ _ ?_; clear hK K))) | (apply AWp_block) | (apply AWp_skip; try simp only [AThen, ABlock]; try (first | (refine hK _ _ ?_; clear hK K) | (clear hK K; refine hK _ _ ?_; clear hK K) | (clear hK K; clear hK K; refine hK _ _ ?_; clear hK K))) | (apply AWp_exit; simp only [AThen, ABlock, reduceIte, Nat.reduceEqDiff]; try (first | (refine hK _ _ ?_; clear hK K) | (clear hK K; refine hK _ _ ?_; clear hK K) | (clear hK K; clear hK K; refine hK _ _ ?_; clear hK K))) | (apply AWp_ret; try simp only [AThen, ABlock]; apply end_ret; rfl; try simp only [AFr.get, reduceIte, Nat.reduceEqDiff]) | (apply s_store; (solve | (simp only [go_sem]; try rfl)); (solve | (simp only [go_sem]; try rfl)); (solve | (simp only [go_sem]; try rfl))) | (apply s_mapput; (solve | (simp only [go_sem]; try rfl)); (solve | (simp only [go_sem]; try rfl)); (solve | (simp only [go_sem]; try rfl)); (solve | (simp only [go_sem]; try rfl))) | (apply s_alloc; (first | decide | (dsimp only; decide)); (first | exact zc_31 | exact zc_35 | exact zc_42); intro b hb) | (apply s_smap; (first | decide | (dsimp only; decide)); exact mp_43; intro b hb) | (apply s_lit; (first | decide | (dsimp only; decide)); exact el_31; (solve | (simp only [go_sem]; try rfl)); (solve | (simp only [go_sem]; try rfl)); decide)))
    exact ⟨H, .sl true [], rfl, Ext.refl _, .inl ⟨rfl, rfl, rfl⟩⟩
  have hc : ¬ limit < 1 := by simpa using hc
  (repeat' (first | (refine AWp_seq_k (fun K hK => ?_)) | (apply s_region) | (apply s_q; (first | decide | (dsimp only; decide)); rfl; (solve | (simp only [go_sem]; try rfl))) | (apply s_nil; try simp only [AThen, ABlock]; try (first | (refine hK _ _ ?_; clear hK K) | (clear hK K; refine hK _ _ ?_; clear hK K) | (clear hK K; clear hK K; refine hK _ _ ?_; clear hK K))) | (apply AWp_block) | (apply AWp_skip; try simp only [AThen, ABlock]; try (first | (refine hK _ _ ?_; clear hK K) | (clear hK K; refine hK _ _ ?_; clear hK K) | (clear hK K; clear hK K; refine hK _ _ ?_; clear hK K))) | (apply AWp_exit; simp only [AThen, ABlock, reduceIte, Nat.reduceEqDiff]; try (first | (refine hK _ _ ?_; clear hK K) | (clear hK K; refine hK _ _ ?_; clear hK K) | (clear hK K; clear hK K; refine hK _ _ ?_; clear hK K))) | (apply AWp_ret; try simp only [AThen, ABlock]; apply end_ret; rfl; try simp only [AFr.get, reduceIte, Nat.reduceEqDiff]) | (apply s_store; (solve | (simp only [go_sem]; try rfl)); (solve | (simp only [go_sem]; try rfl)); (solve | (simp only [go_sem]; try rfl))) | (apply s_mapput; (solve | (simp only [go_sem]; try rfl)); (solve | (simp only [go_sem]; try rfl)); (solve | (simp only [go_sem]; try rfl)); (solve | (simp only [go_sem]; try rfl))) | (apply s_alloc; (first | decide | (dsimp only; decide)); (first | exact zc_31 | exact zc_35 | exact zc_42); intro b hb) | (apply s_smap; (first | decide | (dsimp only; decide)); exact mp_43; intro b hb) | (apply s_lit; (first | decide | (dsimp only; decide)); exact el_31; (solve | (simp only [go_sem]; try rfl)); (solve | (simp only [go_sem]; try rfl)); decide) | (apply s_call; (first | decide | (dsimp only; decide)); (solve | (simp only [go_sem]; try rfl)); (solve | (simp only [go_sem]; try rfl)); apply index_c t l (by omega); intro mi hmi)))
  rename_i ms hms
  obtain ⟨B, hBb⟩ : ∃ B, B = b := ⟨_, rfl⟩
  have hB := hb
  rw [← hBb] at hB ⊢
  clear hb hBb b
  rw [walkR, if_neg hc] at hR0
  obtain ⟨dp, hdpe⟩ : ∃ dp, dp = cutD deep := ⟨_, rfl⟩
  have hdpl := cutD_le deep
  rw [← hdpe] at hdpl hR0
  have hR := hR0
  clear hR0
  have hHms : H.get ms = none := none_of_ext (Ext.fresh hmi) hms
  have hHB : H.get B = none := none_of_ext ((Ext.fresh hmi (o := .smap (idxE l))).put hms (ob := .smap [])) hB
  refine AWp_loop_s (σ := Nat × List Step × List Step × AV × AV × AHeap) [2, 3, 10, 11, 12, 13] (fun s => [.v (.int .i64 dp), .v (.int .i64 limit), .v (.map (some mi)), .v (.map (some ms)), s.2.2.2.2.1, ptrTo B]) (fun s => s.2.2.2.2.2) (fun s => s.1)
    (fun s => walkF l dp limit s.1 s.2.1 s.2.2.1 = R ∧ WInv l root dp limit s.1 s.2.1 s.2.2.1 ∧ WMem l H B ms mi s.2.1 s.2.2.1 s.2.2.2.1 s.2.2.2.2.1 s.2.2.2.2.2)
    (limit.toNat * 11 + 2, [⟨root, [], 0⟩], [], .sl true [[.s root, .s [], .v (.int .i64 0)]], .sl true [], (((H.put mi (.smap (idxE l))).put ms (.smap [])).put B (.box 31 [.sl true [[.s root, .s [], .v (.int .i64 0)]]]))) ⟨hR, ?_, ?_⟩ ?_ rfl (fun s hs => ?_)
  · refine ⟨.nil, by simp, fun x hx => ?_, fun x hx => ?_, by simp; omega, by simp, by simp⟩
    · simp at hx; subst hx; simp [univ]
    · simp at hx; subst hx; simp
  · have f1 := AHeap.get_put_same ms (.smap []) (H.put mi (.smap (idxE l)))
    have f2 := get_fresh (AHeap.get_put_same mi (.smap (idxE l)) H) hms (x := .smap [])
    exact ⟨((Ext.fresh hmi).put hms).put hB, AHeap.get_put_same _ _ _, get_fresh f1 hB, get_fresh f2 hB, .inl rfl, (by intro b n h; cases h), RowAt.nil _ _ _ _, (by intro b n k h; cases h)⟩
  · simp only [getAll, List.map_cons, List.map_nil, AFr.get, reduceIte, Nat.reduceEqDiff, hdpe, cutD]
  obtain ⟨f, st, os, sv, o, M⟩ := s
  obtain ⟨hW, hI, hM⟩ := hs
  simp only [List.zip_cons_cons, List.zip_nil_right] at hW hI hM ⊢
  have hBms : ms ≠ B := by rintro rfl; have h1 := hM.box; rw [hM.seen] at h1; cases h1
  have hBmi : mi ≠ B := by rintro rfl; have h1 := hM.box; rw [hM.idx] at h1; cases h1
  have hosl := hI.os_len hC
  -- the stack is frozen
  refine AWp_boxed2 (p := B) (s := sv) (es := st.map Step.cells) (fun b hb => ?_) hM.held hM.box (fun tl M1 g1 g2 => ?_)
  · simp only [AFr.snap, AV.snap, ptrTo]
    rcases hM.row with ⟨ho, _⟩ | ⟨b2, _, ho, _⟩
    · rw [ho]; rfl
    · rw [ho]
      have : b2 ≠ b := by rintro rfl; exact hM.apart _ _ _ hb ho
      simp [AV.snap, this]
  have hnb : ∀ c o', M.get c = some o' → (∀ sz sn es, o' ≠ .row 35 sz sn es) → ∀ b, sv = .row b 3 (st.map Step.cells).length → c ≠ b := by
    rintro c o' hc ho' b hb rfl
    rcases hM.held with h1 | ⟨b2, h1, h2⟩
    · rw [h1] at hb; cases hb
    · rw [h1] at hb; cases hb
      rw [h2] at hc; cases hc
      exact ho' _ _ _ rfl
  have k1 : M1.get ms = some (.smap (seenT os)) := g2 ms _ hBms (hnb ms _ hM.seen (by intros; simp)) hM.seen
  have k2 : M1.get mi = some (.smap (idxE l)) := g2 mi _ hBmi (hnb mi _ hM.idx (by intros; simp)) hM.idx
  have k3 : Ext H M1 := fun c x hcx => by
    refine g2 c x (by rintro rfl; rw [hHB] at hcx; cases hcx) (fun b hb => ?_) (hM.ext c x hcx)
    rintro rfl
    rw [hM.fresh _ _ hb] at hcx; cases hcx
  have k4 : RowAt 35 3 H M1 (os.map Step.cells) o := by
    rcases hM.row with ⟨ho, h2⟩ | ⟨b2, h1, ho, h3⟩
    · exact .inl ⟨ho, h2⟩
    · refine .inr ⟨b2, h1, ho, g2 b2 _ ?_ ?_ h3⟩
      · rintro rfl; rw [hM.box] at h3; cases h3
      · rintro b hb rfl; exact hM.apart _ _ _ hb ho
  clear hnb
  have hstl := hI.sl
  have hlo := rowAt_len k4 M1 (e' := 35) (s' := some 3)
  rw [List.length_map] at hlo
  obtain ⟨f, rfl⟩ : ∃ g, f = g + 1 := ⟨f - 1, by have := hI.fuel; omega⟩
  have hall : ((st.map Step.cells).all fun c => c.length == 3) = true := by
    rw [List.all_eq_true]; intro c hcl
    obtain ⟨d, _, rfl⟩ := List.mem_map.1 hcl; rfl
  (repeat' (first | (refine AWp_seq_k (fun K hK => ?_)) | (apply s_region) | (apply s_q; (first | decide | (dsimp only; decide)); rfl; (solve | (simp only [go_sem, g1]; try rfl))) | (apply s_nil; try simp only [AThen, ABlock]; try (first | (refine hK _ _ ?_; clear hK K) | (clear hK K; refine hK _ _ ?_; clear hK K) | (clear hK K; clear hK K; refine hK _ _ ?_; clear hK K))) | (apply AWp_block) | (apply AWp_skip; try simp only [AThen, ABlock]; try (first | (refine hK _ _ ?_; clear hK K) | (clear hK K; refine hK _ _ ?_; clear hK K) | (clear hK K; clear hK K; refine hK _ _ ?_; clear hK K))) | (apply AWp_exit; simp only [AThen, ABlock, reduceIte, Nat.reduceEqDiff]; try (first | (refine hK _ _ ?_; clear hK K) | (clear hK K; refine hK _ _ ?_; clear hK K) | (clear hK K; clear hK K; refine hK _ _ ?_; clear hK K))) | (apply AWp_ret; try simp only [AThen, ABlock]; apply end_ret; rfl; try simp only [AFr.get, reduceIte, Nat.reduceEqDiff]) | (apply s_store; (solve | (simp only [go_sem, g1]; try rfl)); (solve | (simp only [go_sem, g1]; try rfl)); (solve | (simp only [go_sem, g1]; try rfl))) | (apply s_mapput; (solve | (simp only [go_sem, g1]; try rfl)); (solve | (simp only [go_sem, g1]; try rfl)); (solve | (simp only [go_sem, g1]; try rfl)); (solve | (simp only [go_sem, g1]; try rfl))) | (apply s_alloc; (first | decide | (dsimp only; decide)); (first | exact zc_31 | exact zc_35 | exact zc_42); intro b hb) | (apply s_smap; (first | decide | (dsimp only; decide)); exact mp_43; intro b hb) | (apply s_lit; (first | decide | (dsimp only; decide)); exact el_31; (solve | (simp only [go_sem, g1]; try rfl)); (solve | (simp only [go_sem, g1]; try rfl)); decide)))
  refine cond_split (by simp only [go_sem]; try rfl) (fun hz => ?_) (fun hz => ?_)
  rotate_left
  · have hnil : st = [] := by
      have := of_decide_eq_false hz
      have : st.length = 0 := by omega
      exact List.length_eq_zero_iff.1 this
    subst hnil
    have e : R = (os, true) := by rw [← hW]; rfl
    subst e
    (repeat' (first | (refine AWp_seq_k (fun K hK => ?_)) | (apply s_region) | (apply s_q; (first | decide | (dsimp only; decide)); rfl; (solve | (simp only [go_sem]; try rfl))) | (apply s_nil; try simp only [AThen, ABlock]; try (first | (refine hK _ _ ?_; clear hK K) | (clear hK K; refine hK _ _ ?_; clear hK K) | (clear hK K; clear hK K; refine hK _ _ ?_; clear hK K))) | (apply AWp_block) | (apply AWp_skip; try simp only [AThen, ABlock]; try (first | (refine hK _ _ ?_; clear hK K) | (clear hK K; refine hK _ _ ?_; clear hK K) | (clear hK K; clear hK K; refine hK _ _ ?_; clear hK K))) | (apply AWp_exit; simp only [AThen, ABlock, reduceIte, Nat.reduceEqDiff]; try (first | (refine hK _ _ ?_; clear hK K) | (clear hK K; refine hK _ _ ?_; clear hK K) | (clear hK K; clear hK K; refine hK _ _ ?_; clear hK K))) | (apply AWp_ret; try simp only [AThen, ABlock]; apply end_ret; rfl; try simp only [AFr.get, reduceIte, Nat.reduceEqDiff]) | (apply s_store; (solve | (simp only [go_sem]; try rfl)); (solve | (simp only [go_sem]; try rfl)); (solve | (simp only [go_sem]; try rfl))) | (apply s_mapput; (solve | (simp only [go_sem]; try rfl)); (solve | (simp only [go_sem]; try rfl)); (solve | (simp only [go_sem]; try rfl)); (solve | (simp only [go_sem]; try rfl))) | (apply s_alloc; (first | decide | (dsimp only; decide)); (first | exact zc_31 | exact zc_35 | exact zc_42); intro b hb) | (apply s_smap; (first | decide | (dsimp only; decide)); exact mp_43; intro b hb) | (apply s_lit; (first | decide | (dsimp only; decide)); exact el_31; (solve | (simp only [go_sem]; try rfl)); (solve | (simp only [go_sem]; try rfl)); decide)))
    obtain ⟨L0, h1, h2⟩ := k4.toGr k3
    exact ⟨L0, o, rfl, h1, h2⟩
  · have hpos : 0 < st.length := by
      have := of_decide_eq_true hz
      omega
    obtain ⟨x, hx⟩ : ∃ x, st.getLast? = some x := by
      cases hst : st.getLast? with
      | none => rw [List.getLast?_eq_none_iff] at hst; subst hst; simp at hpos
      | some x => exact ⟨x, rfl⟩
    have hspl := last_split hx
    have hxi : st[st.length - 1]? = some x := by rw [← List.getLast?_eq_getElem?]; exact hx
    have hgx := step_at hxi
    have ew : IntKind.i64.wrap ((st.length : Int) - 1) = ((st.length - 1 : Nat) : Int) := by rw [wrap64 (by omega)]; omega
    (repeat' (first | (refine AWp_seq_k (fun K hK => ?_)) | (apply s_region) | (apply s_q; (first | decide | (dsimp only; decide)); rfl; (solve | (simp only [go_sem, g1, hgx, ew]; try rfl))) | (apply s_nil; try simp only [AThen, ABlock]; try (first | (refine hK _ _ ?_; clear hK K) | (clear hK K; refine hK _ _ ?_; clear hK K) | (clear hK K; clear hK K; refine hK _ _ ?_; clear hK K))) | (apply AWp_block) | (apply AWp_skip; try simp only [AThen, ABlock]; try (first | (refine hK _ _ ?_; clear hK K) | (clear hK K; refine hK _ _ ?_; clear hK K) | (clear hK K; clear hK K; refine hK _ _ ?_; clear hK K))) | (apply AWp_exit; simp only [AThen, ABlock, reduceIte, Nat.reduceEqDiff]; try (first | (refine hK _ _ ?_; clear hK K) | (clear hK K; refine hK _ _ ?_; clear hK K) | (clear hK K; clear hK K; refine hK _ _ ?_; clear hK K))) | (apply AWp_ret; try simp only [AThen, ABlock]; apply end_ret; rfl; try simp only [AFr.get, reduceIte, Nat.reduceEqDiff]) | (apply s_store; (solve | (simp only [go_sem, g1, hgx, ew]; try rfl)); (solve | (simp only [go_sem, g1, hgx, ew]; try rfl)); (solve | (simp only [go_sem, g1, hgx, ew]; try rfl))) | (apply s_mapput; (solve | (simp only [go_sem, g1, hgx, ew]; try rfl)); (solve | (simp only [go_sem, g1, hgx, ew]; try rfl)); (solve | (simp only [go_sem, g1, hgx, ew]; try rfl)); (solve | (simp only [go_sem, g1, hgx, ew]; try rfl))) | (apply s_alloc; (first | decide | (dsimp only; decide)); (first | exact zc_31 | exact zc_35 | exact zc_42); intro b hb) | (apply s_smap; (first | decide | (dsimp only; decide)); exact mp_43; intro b hb) | (apply s_lit; (first | decide | (dsimp only; decide)); exact el_31; (solve | (simp only [go_sem, g1, hgx, ew]; try rfl)); (solve | (simp only [go_sem, g1, hgx, ew]; try rfl)); decide)))
    obtain ⟨p, hpb⟩ : ∃ p, p = b := ⟨_, rfl⟩
    have hp := hb
    rw [← hpb] at hp ⊢
    clear hb hpb b
    have hpB := get_ne_fresh g1 hp
    have hpms := get_ne_fresh k1 hp
    have hpmi := get_ne_fresh k2 hp
    have m1 := get_fresh k1 hp (x := .box 35 [.s x.id, .s x.by_, .v (.int .i64 x.deep)])
    have m2 := get_fresh k2 hp (x := .box 35 [.s x.id, .s x.by_, .v (.int .i64 x.deep)])
    have m3 := k3.put hp (ob := .box 35 [.s x.id, .s x.by_, .v (.int .i64 x.deep)])
    have m4 := k4.ext (Ext.fresh hp (o := .box 35 [.s x.id, .s x.by_, .v (.int .i64 x.deep)]))
    have m5 := get_fresh g1 hp (x := .box 35 [.s x.id, .s x.by_, .v (.int .i64 x.deep)])
    have m6 := AHeap.get_put_same p (.box 35 [.s x.id, .s x.by_, .v (.int .i64 x.deep)]) M1
    have hHp := none_of_ext k3 hp
    generalize M1.put p (.box 35 [.s x.id, .s x.by_, .v (.int .i64 x.deep)]) = M2 at m1 m2 m3 m4 m5 m6 ⊢
    clear hlo
    have hlo := rowAt_len m4 M2 (e' := 35) (s' := some 3)
    rw [List.length_map] at hlo
    clear k1 k2 k3 k4 g1 g2 hp M1
    (repeat' (first | (refine AWp_seq_k (fun K hK => ?_)) | (apply s_region) | (apply s_q; (first | decide | (dsimp only; decide)); rfl; (solve | (simp only [go_sem, m5, ew]; try rfl))) | (apply s_nil; try simp only [AThen, ABlock]; try (first | (refine hK _ _ ?_; clear hK K) | (clear hK K; refine hK _ _ ?_; clear hK K) | (clear hK K; clear hK K; refine hK _ _ ?_; clear hK K))) | (apply AWp_block) | (apply AWp_skip; try simp only [AThen, ABlock]; try (first | (refine hK _ _ ?_; clear hK K) | (clear hK K; refine hK _ _ ?_; clear hK K) | (clear hK K; clear hK K; refine hK _ _ ?_; clear hK K))) | (apply AWp_exit; simp only [AThen, ABlock, reduceIte, Nat.reduceEqDiff]; try (first | (refine hK _ _ ?_; clear hK K) | (clear hK K; refine hK _ _ ?_; clear hK K) | (clear hK K; clear hK K; refine hK _ _ ?_; clear hK K))) | (apply AWp_ret; try simp only [AThen, ABlock]; apply end_ret; rfl; try simp only [AFr.get, reduceIte, Nat.reduceEqDiff]) | (apply s_store; (solve | (simp only [go_sem, m5, ew]; try rfl)); (solve | (simp only [go_sem, m5, ew]; try rfl)); (solve | (simp only [go_sem, m5, ew]; try rfl))) | (apply s_mapput; (solve | (simp only [go_sem, m5, ew]; try rfl)); (solve | (simp only [go_sem, m5, ew]; try rfl)); (solve | (simp only [go_sem, m5, ew]; try rfl)); (solve | (simp only [go_sem, m5, ew]; try rfl))) | (apply s_alloc; (first | decide | (dsimp only; decide)); (first | exact zc_31 | exact zc_35 | exact zc_42); intro b hb) | (apply s_smap; (first | decide | (dsimp only; decide)); exact mp_43; intro b hb) | (apply s_lit; (first | decide | (dsimp only; decide)); exact el_31; (solve | (simp only [go_sem, m5, ew]; try rfl)); (solve | (simp only [go_sem, m5, ew]; try rfl)); decide)))
    apply s_q; decide; rfl
    · simp only [go_sem, ew, Int.natCast_nonneg, if_true, Int.toNat_natCast]; rw [if_pos ⟨by omega, by omega, hall⟩]
    have edl : List.take (st.length - 1) (st.map Step.cells) = st.dropLast.map Step.cells := by
      rw [← List.map_take, ← List.dropLast_eq_take]
    rw [edl]
    have n1 : (M2.put B (.box 31 [.sl true (st.dropLast.map Step.cells)])).get ms = some (.smap (seenT os)) := by rw [AHeap.get_put, if_neg hBms]; exact m1
    have n2 : (M2.put B (.box 31 [.sl true (st.dropLast.map Step.cells)])).get mi = some (.smap (idxE l)) := by rw [AHeap.get_put, if_neg hBmi]; exact m2
    have n3 := m3.over (o := .box 31 [.sl true (st.dropLast.map Step.cells)]) hHB
    have n4 := m4.put m5 (fun _ _ _ h => by cases h) (o' := .box 31 [.sl true (st.dropLast.map Step.cells)])
    have n5 := AHeap.get_put_same B (.box 31 [.sl true (st.dropLast.map Step.cells)]) M2
    have n6 : (M2.put B (.box 31 [.sl true (st.dropLast.map Step.cells)])).get p = some (.box 35 [.s x.id, .s x.by_, .v (.int .i64 x.deep)]) := by rw [AHeap.get_put, if_neg (Ne.symm hpB)]; exact m6
    have hk := seenT_find x os
    cases hsn : seenS x os with
    | true =>
      rw [hsn] at hk
      simp only [if_true] at hk
      (repeat' (first | (refine AWp_seq_k (fun K hK => ?_)) | (apply s_region) | (apply s_q; (first | decide | (dsimp only; decide)); rfl; (solve | (simp only [go_sem, m5, n1, n6, hk]; try rfl))) | (apply s_nil; try simp only [AThen, ABlock]; try (first | (refine hK _ _ ?_; clear hK K) | (clear hK K; refine hK _ _ ?_; clear hK K) | (clear hK K; clear hK K; refine hK _ _ ?_; clear hK K))) | (apply AWp_block) | (apply AWp_skip; try simp only [AThen, ABlock]; try (first | (refine hK _ _ ?_; clear hK K) | (clear hK K; refine hK _ _ ?_; clear hK K) | (clear hK K; clear hK K; refine hK _ _ ?_; clear hK K))) | (apply AWp_exit; simp only [AThen, ABlock, reduceIte, Nat.reduceEqDiff]; try (first | (refine hK _ _ ?_; clear hK K) | (clear hK K; refine hK _ _ ?_; clear hK K) | (clear hK K; clear hK K; refine hK _ _ ?_; clear hK K))) | (apply AWp_ret; try simp only [AThen, ABlock]; apply end_ret; rfl; try simp only [AFr.get, reduceIte, Nat.reduceEqDiff]) | (apply s_store; (solve | (simp only [go_sem, m5, n1, n6, hk]; try rfl)); (solve | (simp only [go_sem, m5, n1, n6, hk]; try rfl)); (solve | (simp only [go_sem, m5, n1, n6, hk]; try rfl))) | (apply s_mapput; (solve | (simp only [go_sem, m5, n1, n6, hk]; try rfl)); (solve | (simp only [go_sem, m5, n1, n6, hk]; try rfl)); (solve | (simp only [go_sem, m5, n1, n6, hk]; try rfl)); (solve | (simp only [go_sem, m5, n1, n6, hk]; try rfl))) | (apply s_alloc; (first | decide | (dsimp only; decide)); (first | exact zc_31 | exact zc_35 | exact zc_42); intro b hb) | (apply s_smap; (first | decide | (dsimp only; decide)); exact mp_43; intro b hb) | (apply s_lit; (first | decide | (dsimp only; decide)); exact el_31; (solve | (simp only [go_sem, m5, n1, n6, hk]; try rfl)); (solve | (simp only [go_sem, m5, n1, n6, hk]; try rfl)); decide)))
      refine cond_split (by simp only [go_sem]; try rfl) (fun hy => ?_) (fun hy => ?_)
      rotate_left
      · cases hy
      (repeat' (first | (refine AWp_seq_k (fun K hK => ?_)) | (apply s_region) | (apply s_q; (first | decide | (dsimp only; decide)); rfl; (solve | (simp only [go_sem]; try rfl))) | (apply s_nil; try simp only [AThen, ABlock]; try (first | (refine hK _ _ ?_; clear hK K) | (clear hK K; refine hK _ _ ?_; clear hK K) | (clear hK K; clear hK K; refine hK _ _ ?_; clear hK K))) | (apply AWp_block) | (apply AWp_skip; try simp only [AThen, ABlock]; try (first | (refine hK _ _ ?_; clear hK K) | (clear hK K; refine hK _ _ ?_; clear hK K) | (clear hK K; clear hK K; refine hK _ _ ?_; clear hK K))) | (apply AWp_exit; simp only [AThen, ABlock, reduceIte, Nat.reduceEqDiff]; try (first | (refine hK _ _ ?_; clear hK K) | (clear hK K; refine hK _ _ ?_; clear hK K) | (clear hK K; clear hK K; refine hK _ _ ?_; clear hK K))) | (apply AWp_ret; try simp only [AThen, ABlock]; apply end_ret; rfl; try simp only [AFr.get, reduceIte, Nat.reduceEqDiff]) | (apply s_store; (solve | (simp only [go_sem]; try rfl)); (solve | (simp only [go_sem]; try rfl)); (solve | (simp only [go_sem]; try rfl))) | (apply s_mapput; (solve | (simp only [go_sem]; try rfl)); (solve | (simp only [go_sem]; try rfl)); (solve | (simp only [go_sem]; try rfl)); (solve | (simp only [go_sem]; try rfl))) | (apply s_alloc; (first | decide | (dsimp only; decide)); (first | exact zc_31 | exact zc_35 | exact zc_42); intro b hb) | (apply s_smap; (first | decide | (dsimp only; decide)); exact mp_43; intro b hb) | (apply s_lit; (first | decide | (dsimp only; decide)); exact el_31; (solve | (simp only [go_sem]; try rfl)); (solve | (simp only [go_sem]; try rfl)); decide)))
      refine ⟨(f, st.dropLast, os, .sl true (st.dropLast.map Step.cells), o, M2.put B (.box 31 [.sl true (st.dropLast.map Step.cells)])), by simp only; omega, ⟨?_, hI.skip hx, ⟨n3, n5, n1, n2, .inl rfl, (by intro b n h; cases h), n4, (by intro b n k h; cases h)⟩⟩, rfl, rfl⟩
      simp only
      rw [← hW, walkF, hx]
      simp [hsn]
    | false =>
      rw [hsn] at hk
      have hk : kfind x.id (seenT os) = none := by simpa using hk
      (repeat' (first | (refine AWp_seq_k (fun K hK => ?_)) | (apply s_region) | (apply s_q; (first | decide | (dsimp only; decide)); rfl; (solve | (simp only [go_sem, m5, n1, n6, hk]; try rfl))) | (apply s_nil; try simp only [AThen, ABlock]; try (first | (refine hK _ _ ?_; clear hK K) | (clear hK K; refine hK _ _ ?_; clear hK K) | (clear hK K; clear hK K; refine hK _ _ ?_; clear hK K))) | (apply AWp_block) | (apply AWp_skip; try simp only [AThen, ABlock]; try (first | (refine hK _ _ ?_; clear hK K) | (clear hK K; refine hK _ _ ?_; clear hK K) | (clear hK K; clear hK K; refine hK _ _ ?_; clear hK K))) | (apply AWp_exit; simp only [AThen, ABlock, reduceIte, Nat.reduceEqDiff]; try (first | (refine hK _ _ ?_; clear hK K) | (clear hK K; refine hK _ _ ?_; clear hK K) | (clear hK K; clear hK K; refine hK _ _ ?_; clear hK K))) | (apply AWp_ret; try simp only [AThen, ABlock]; apply end_ret; rfl; try simp only [AFr.get, reduceIte, Nat.reduceEqDiff]) | (apply s_store; (solve | (simp only [go_sem, m5, n1, n6, hk]; try rfl)); (solve | (simp only [go_sem, m5, n1, n6, hk]; try rfl)); (solve | (simp only [go_sem, m5, n1, n6, hk]; try rfl))) | (apply s_mapput; (solve | (simp only [go_sem, m5, n1, n6, hk]; try rfl)); (solve | (simp only [go_sem, m5, n1, n6, hk]; try rfl)); (solve | (simp only [go_sem, m5, n1, n6, hk]; try rfl)); (solve | (simp only [go_sem, m5, n1, n6, hk]; try rfl))) | (apply s_alloc; (first | decide | (dsimp only; decide)); (first | exact zc_31 | exact zc_35 | exact zc_42); intro b hb) | (apply s_smap; (first | decide | (dsimp only; decide)); exact mp_43; intro b hb) | (apply s_lit; (first | decide | (dsimp only; decide)); exact el_31; (solve | (simp only [go_sem, m5, n1, n6, hk]; try rfl)); (solve | (simp only [go_sem, m5, n1, n6, hk]; try rfl)); decide)))
      refine cond_split (by simp only [go_sem]; try rfl) (fun hy => ?_) (fun hy => ?_)
      · cases hy
      have hlo2 := rowAt_len n4 (M2.put B (.box 31 [.sl true (st.dropLast.map Step.cells)])) (e' := 35) (s' := some 3)
      rw [List.length_map] at hlo2
      (repeat' (first | (refine AWp_seq_k (fun K hK => ?_)) | (apply s_region) | (apply s_q; (first | decide | (dsimp only; decide)); rfl; (solve | (simp only [go_sem]; try rfl))) | (apply s_nil; try simp only [AThen, ABlock]; try (first | (refine hK _ _ ?_; clear hK K) | (clear hK K; refine hK _ _ ?_; clear hK K) | (clear hK K; clear hK K; refine hK _ _ ?_; clear hK K))) | (apply AWp_block) | (apply AWp_skip; try simp only [AThen, ABlock]; try (first | (refine hK _ _ ?_; clear hK K) | (clear hK K; refine hK _ _ ?_; clear hK K) | (clear hK K; clear hK K; refine hK _ _ ?_; clear hK K))) | (apply AWp_exit; simp only [AThen, ABlock, reduceIte, Nat.reduceEqDiff]; try (first | (refine hK _ _ ?_; clear hK K) | (clear hK K; refine hK _ _ ?_; clear hK K) | (clear hK K; clear hK K; refine hK _ _ ?_; clear hK K))) | (apply AWp_ret; try simp only [AThen, ABlock]; apply end_ret; rfl; try simp only [AFr.get, reduceIte, Nat.reduceEqDiff]) | (apply s_store; (solve | (simp only [go_sem]; try rfl)); (solve | (simp only [go_sem]; try rfl)); (solve | (simp only [go_sem]; try rfl))) | (apply s_mapput; (solve | (simp only [go_sem]; try rfl)); (solve | (simp only [go_sem]; try rfl)); (solve | (simp only [go_sem]; try rfl)); (solve | (simp only [go_sem]; try rfl))) | (apply s_alloc; (first | decide | (dsimp only; decide)); (first | exact zc_31 | exact zc_35 | exact zc_42); intro b hb) | (apply s_smap; (first | decide | (dsimp only; decide)); exact mp_43; intro b hb) | (apply s_lit; (first | decide | (dsimp only; decide)); exact el_31; (solve | (simp only [go_sem]; try rfl)); (solve | (simp only [go_sem]; try rfl)); decide) | ((apply s_q; decide; rfl; (simp only [go_sem]; exact hlo2)))))
      refine cond_split (by simp only [go_sem]; try rfl) (fun hw => ?_) (fun hw => ?_)
      · have hw : (os.length : Int) = limit := by simpa using hw
        have e : R = (os, false) := by
          rw [← hW, walkF, hx]
          simp [hsn, hw]
        subst e
        (repeat' (first | (refine AWp_seq_k (fun K hK => ?_)) | (apply s_region) | (apply s_q; (first | decide | (dsimp only; decide)); rfl; (solve | (simp only [go_sem]; try rfl))) | (apply s_nil; try simp only [AThen, ABlock]; try (first | (refine hK _ _ ?_; clear hK K) | (clear hK K; refine hK _ _ ?_; clear hK K) | (clear hK K; clear hK K; refine hK _ _ ?_; clear hK K))) | (apply AWp_block) | (apply AWp_skip; try simp only [AThen, ABlock]; try (first | (refine hK _ _ ?_; clear hK K) | (clear hK K; refine hK _ _ ?_; clear hK K) | (clear hK K; clear hK K; refine hK _ _ ?_; clear hK K))) | (apply AWp_exit; simp only [AThen, ABlock, reduceIte, Nat.reduceEqDiff]; try (first | (refine hK _ _ ?_; clear hK K) | (clear hK K; refine hK _ _ ?_; clear hK K) | (clear hK K; clear hK K; refine hK _ _ ?_; clear hK K))) | (apply AWp_ret; try simp only [AThen, ABlock]; apply end_ret; rfl; try simp only [AFr.get, reduceIte, Nat.reduceEqDiff]) | (apply s_store; (solve | (simp only [go_sem]; try rfl)); (solve | (simp only [go_sem]; try rfl)); (solve | (simp only [go_sem]; try rfl))) | (apply s_mapput; (solve | (simp only [go_sem]; try rfl)); (solve | (simp only [go_sem]; try rfl)); (solve | (simp only [go_sem]; try rfl)); (solve | (simp only [go_sem]; try rfl))) | (apply s_alloc; (first | decide | (dsimp only; decide)); (first | exact zc_31 | exact zc_35 | exact zc_42); intro b hb) | (apply s_smap; (first | decide | (dsimp only; decide)); exact mp_43; intro b hb) | (apply s_lit; (first | decide | (dsimp only; decide)); exact el_31; (solve | (simp only [go_sem]; try rfl)); (solve | (simp only [go_sem]; try rfl)); decide)))
        obtain ⟨L0, h1, h2⟩ := n4.toGr n3
        exact ⟨L0, o, rfl, h1, h2⟩
      have hw : (os.length : Int) ≠ limit := by simpa using hw
      have hI2 := hI.go hC hdpl.2 hx hsn hw
      have hosl2 := hI2.os_len hC
      have hst2 := hI2.sl
      have hkp := seenT_put x os hsn
      have hpms2 : p ≠ ms := Ne.symm hpms
      have q1 := AHeap.get_put_same ms (.smap (seenT (os ++ [x]))) (M2.put B (.box 31 [.sl true (st.dropLast.map Step.cells)]))
      have q2 : ((M2.put B (.box 31 [.sl true (st.dropLast.map Step.cells)])).put ms (.smap (seenT (os ++ [x])))).get mi = some (.smap (idxE l)) := by
        rw [AHeap.get_put, if_neg]
        · exact n2
        · rintro rfl
          have f2 := get_fresh (AHeap.get_put_same mi (.smap (idxE l)) H) hms (x := .smap [])
          rw [AHeap.get_put_same] at hms; cases hms
      have q3 := n3.over (o := .smap (seenT (os ++ [x]))) hHms
      have q4 := n4.put n1 (fun _ _ _ h => by cases h) (o' := .smap (seenT (os ++ [x])))
      have q5 : ((M2.put B (.box 31 [.sl true (st.dropLast.map Step.cells)])).put ms (.smap (seenT (os ++ [x])))).get B = some (.box 31 [.sl true (st.dropLast.map Step.cells)]) := by rw [AHeap.get_put, if_neg (Ne.symm hBms)]; exact n5
      have q6 : ((M2.put B (.box 31 [.sl true (st.dropLast.map Step.cells)])).put ms (.smap (seenT (os ++ [x])))).get p = some (.box 35 [.s x.id, .s x.by_, .v (.int .i64 x.deep)]) := by rw [AHeap.get_put, if_neg hpms2]; exact n6
      (repeat' (first | (refine AWp_seq_k (fun K hK => ?_)) | (apply s_region) | (apply s_q; (first | decide | (dsimp only; decide)); rfl; (solve | (simp only [go_sem, n1, n6, hkp, q6]; try rfl))) | (apply s_nil; try simp only [AThen, ABlock]; try (first | (refine hK _ _ ?_; clear hK K) | (clear hK K; refine hK _ _ ?_; clear hK K) | (clear hK K; clear hK K; refine hK _ _ ?_; clear hK K))) | (apply AWp_block) | (apply AWp_skip; try simp only [AThen, ABlock]; try (first | (refine hK _ _ ?_; clear hK K) | (clear hK K; refine hK _ _ ?_; clear hK K) | (clear hK K; clear hK K; refine hK _ _ ?_; clear hK K))) | (apply AWp_exit; simp only [AThen, ABlock, reduceIte, Nat.reduceEqDiff]; try (first | (refine hK _ _ ?_; clear hK K) | (clear hK K; refine hK _ _ ?_; clear hK K) | (clear hK K; clear hK K; refine hK _ _ ?_; clear hK K))) | (apply AWp_ret; try simp only [AThen, ABlock]; apply end_ret; rfl; try simp only [AFr.get, reduceIte, Nat.reduceEqDiff]) | (apply s_store; (solve | (simp only [go_sem, n1, n6, hkp, q6]; try rfl)); (solve | (simp only [go_sem, n1, n6, hkp, q6]; try rfl)); (solve | (simp only [go_sem, n1, n6, hkp, q6]; try rfl))) | (apply s_mapput; (solve | (simp only [go_sem, n1, n6, hkp, q6]; try rfl)); (solve | (simp only [go_sem, n1, n6, hkp, q6]; try rfl)); (solve | (simp only [go_sem, n1, n6, hkp, q6]; try rfl)); (solve | (simp only [go_sem, n1, n6, hkp, q6]; try rfl))) | (apply s_alloc; (first | decide | (dsimp only; decide)); (first | exact zc_31 | exact zc_35 | exact zc_42); intro b hb) | (apply s_smap; (first | decide | (dsimp only; decide)); exact mp_43; intro b hb) | (apply s_lit; (first | decide | (dsimp only; decide)); exact el_31; (solve | (simp only [go_sem, n1, n6, hkp, q6]; try rfl)); (solve | (simp only [go_sem, n1, n6, hkp, q6]; try rfl)); decide) | (apply s_append; (first | decide | (dsimp only; decide)); (solve | (simp only [go_sem, n1, n6, hkp, q6]; try rfl)); (solve | (simp only [go_sem, n1, n6, hkp, q6]; try rfl)); apply AApp_at el_31 q3 q4 (l := os) (m := [x]) (g := Step.cells) rfl rfl tk_31 step_one (by simp; omega) (by simp; omega); intro o2 M3 r4 r3 hK3)))
      have u1 := hK3 ms _ q1 (fun _ _ _ h => by cases h)
      have u2 := hK3 mi _ q2 (fun _ _ _ h => by cases h)
      have u5 := hK3 B _ q5 (fun _ _ _ h => by cases h)
      have u6 := hK3 p _ q6 (fun _ _ _ h => by cases h)
      clear q1 q2 q3 q4 q5 q6 n1 n2 n3 n4 n5 n6 m1 m2 m3 m4 m5 m6 hlo hlo2
      (repeat' (first | (refine AWp_seq_k (fun K hK => ?_)) | (apply s_region) | (apply s_q; (first | decide | (dsimp only; decide)); rfl; (solve | (simp only [go_sem, u6]; try rfl))) | (apply s_nil; try simp only [AThen, ABlock]; try (first | (refine hK _ _ ?_; clear hK K) | (clear hK K; refine hK _ _ ?_; clear hK K) | (clear hK K; clear hK K; refine hK _ _ ?_; clear hK K))) | (apply AWp_block) | (apply AWp_skip; try simp only [AThen, ABlock]; try (first | (refine hK _ _ ?_; clear hK K) | (clear hK K; refine hK _ _ ?_; clear hK K) | (clear hK K; clear hK K; refine hK _ _ ?_; clear hK K))) | (apply AWp_exit; simp only [AThen, ABlock, reduceIte, Nat.reduceEqDiff]; try (first | (refine hK _ _ ?_; clear hK K) | (clear hK K; refine hK _ _ ?_; clear hK K) | (clear hK K; clear hK K; refine hK _ _ ?_; clear hK K))) | (apply AWp_ret; try simp only [AThen, ABlock]; apply end_ret; rfl; try simp only [AFr.get, reduceIte, Nat.reduceEqDiff]) | (apply s_store; (solve | (simp only [go_sem, u6]; try rfl)); (solve | (simp only [go_sem, u6]; try rfl)); (solve | (simp only [go_sem, u6]; try rfl))) | (apply s_mapput; (solve | (simp only [go_sem, u6]; try rfl)); (solve | (simp only [go_sem, u6]; try rfl)); (solve | (simp only [go_sem, u6]; try rfl)); (solve | (simp only [go_sem, u6]; try rfl))) | (apply s_alloc; (first | decide | (dsimp only; decide)); (first | exact zc_31 | exact zc_35 | exact zc_42); intro b hb) | (apply s_smap; (first | decide | (dsimp only; decide)); exact mp_43; intro b hb) | (apply s_lit; (first | decide | (dsimp only; decide)); exact el_31; (solve | (simp only [go_sem, u6]; try rfl)); (solve | (simp only [go_sem, u6]; try rfl)); decide)))
      refine cond_split (by simp only [go_sem]; try rfl) (fun hq => ?_) (fun hq => ?_)
      rotate_left
      · have hq : ¬ x.deep < dp := by simpa using hq
        rw [if_neg hq, List.append_nil] at hI2
        (repeat' (first | (refine AWp_seq_k (fun K hK => ?_)) | (apply s_region) | (apply s_q; (first | decide | (dsimp only; decide)); rfl; (solve | (simp only [go_sem]; try rfl))) | (apply s_nil; try simp only [AThen, ABlock]; try (first | (refine hK _ _ ?_; clear hK K) | (clear hK K; refine hK _ _ ?_; clear hK K) | (clear hK K; clear hK K; refine hK _ _ ?_; clear hK K))) | (apply AWp_block) | (apply AWp_skip; try simp only [AThen, ABlock]; try (first | (refine hK _ _ ?_; clear hK K) | (clear hK K; refine hK _ _ ?_; clear hK K) | (clear hK K; clear hK K; refine hK _ _ ?_; clear hK K))) | (apply AWp_exit; simp only [AThen, ABlock, reduceIte, Nat.reduceEqDiff]; try (first | (refine hK _ _ ?_; clear hK K) | (clear hK K; refine hK _ _ ?_; clear hK K) | (clear hK K; clear hK K; refine hK _ _ ?_; clear hK K))) | (apply AWp_ret; try simp only [AThen, ABlock]; apply end_ret; rfl; try simp only [AFr.get, reduceIte, Nat.reduceEqDiff]) | (apply s_store; (solve | (simp only [go_sem]; try rfl)); (solve | (simp only [go_sem]; try rfl)); (solve | (simp only [go_sem]; try rfl))) | (apply s_mapput; (solve | (simp only [go_sem]; try rfl)); (solve | (simp only [go_sem]; try rfl)); (solve | (simp only [go_sem]; try rfl)); (solve | (simp only [go_sem]; try rfl))) | (apply s_alloc; (first | decide | (dsimp only; decide)); (first | exact zc_31 | exact zc_35 | exact zc_42); intro b hb) | (apply s_smap; (first | decide | (dsimp only; decide)); exact mp_43; intro b hb) | (apply s_lit; (first | decide | (dsimp only; decide)); exact el_31; (solve | (simp only [go_sem]; try rfl)); (solve | (simp only [go_sem]; try rfl)); decide)))
        refine ⟨(f, st.dropLast, os ++ [x], .sl true (st.dropLast.map Step.cells), o2, M3), by simp only; omega, ⟨?_, hI2, ⟨r3, u5, u1, u2, .inl rfl, (by intro b n h; cases h), r4, (by intro b n k h; cases h)⟩⟩, by trivial, by trivial⟩
        simp only
        rw [← hW, walkF, hx]
        simp [hsn, hw, hq]
      · have hq : x.deep < dp := by simpa using hq
        rw [if_pos hq] at hI2
        have hW2 : walkF l dp limit f (st.dropLast ++ push l x) (os ++ [x]) = R := by
          rw [← hW]
          conv => rhs; rw [walkF, hx]
          simp [hsn, hw, hq]
        obtain ⟨tk, hlook⟩ : ∃ tk, lookupK M3 (some (TK.str, some (.sl true []))) (.v (.map (some mi))) (.s x.id) false = some (.sl tk ((kidsOf l x.id).map Child.cells)) := by
          have hf := idx_find x.id l
          unfold kidsOf
          cases hfi : l.find? (fun s => decide (s.id = x.id)) with
          | none => rw [hfi] at hf; exact ⟨true, by simp only [go_sem, u2, hf, Option.map_none]; try rfl⟩
          | some s => rw [hfi] at hf; exact ⟨false, by simp only [go_sem, u2, hf, Option.map_some]; try rfl⟩
        have hkl := kids_len (k := x.id) hC
        have hko : ∀ c ∈ kidsOf l x.id, c.ord.length < 4294967281 := fun c hc => by
          obtain ⟨s, hs, _, hcs⟩ := kids_mem hc
          exact hO s hs c hcs
        (repeat' (first | (refine AWp_seq_k (fun K hK => ?_)) | (apply s_region) | (apply s_q; (first | decide | (dsimp only; decide)); rfl; (solve | (simp only [go_sem, u6]; try rfl))) | (apply s_nil; try simp only [AThen, ABlock]; try (first | (refine hK _ _ ?_; clear hK K) | (clear hK K; refine hK _ _ ?_; clear hK K) | (clear hK K; clear hK K; refine hK _ _ ?_; clear hK K))) | (apply AWp_block) | (apply AWp_skip; try simp only [AThen, ABlock]; try (first | (refine hK _ _ ?_; clear hK K) | (clear hK K; refine hK _ _ ?_; clear hK K) | (clear hK K; clear hK K; refine hK _ _ ?_; clear hK K))) | (apply AWp_exit; simp only [AThen, ABlock, reduceIte, Nat.reduceEqDiff]; try (first | (refine hK _ _ ?_; clear hK K) | (clear hK K; refine hK _ _ ?_; clear hK K) | (clear hK K; clear hK K; refine hK _ _ ?_; clear hK K))) | (apply AWp_ret; try simp only [AThen, ABlock]; apply end_ret; rfl; try simp only [AFr.get, reduceIte, Nat.reduceEqDiff]) | (apply s_store; (solve | (simp only [go_sem, u6]; try rfl)); (solve | (simp only [go_sem, u6]; try rfl)); (solve | (simp only [go_sem, u6]; try rfl))) | (apply s_mapput; (solve | (simp only [go_sem, u6]; try rfl)); (solve | (simp only [go_sem, u6]; try rfl)); (solve | (simp only [go_sem, u6]; try rfl)); (solve | (simp only [go_sem, u6]; try rfl))) | (apply s_alloc; (first | decide | (dsimp only; decide)); (first | exact zc_31 | exact zc_35 | exact zc_42); intro b hb) | (apply s_smap; (first | decide | (dsimp only; decide)); exact mp_43; intro b hb) | (apply s_lit; (first | decide | (dsimp only; decide)); exact el_31; (solve | (simp only [go_sem, u6]; try rfl)); (solve | (simp only [go_sem, u6]; try rfl)); decide) | (apply s_call; (first | decide | (dsimp only; decide)); (solve | (simp only [go_sem, u6]; try rfl)); (solve | (simp only [go_sem, u6]; try rfl)); apply sort_c hS _ _ (by omega) hko) | (apply s_call; (first | decide | (dsimp only; decide)); (solve | (simp only [go_sem, u6]; try rfl)); (solve | (simp only [go_sem, u6]; try rfl)); apply backC_c; intro cb hcb) | ((apply s_q; decide; rfl; (simp only [go_sem]; exact hlook)))))
        have hkl2 : (srt (kidsOf l x.id)).length ≤ 10 := Nat.le_trans (srt_len _) hkl
        have epush : pushed x (srt (kidsOf l x.id)) 0 = push l x := by simp [pushed, push]
        generalize srt (kidsOf l x.id) = cs at hkl2 hcb epush ⊢
        have w1 := get_fresh u1 hcb (x := .box 22 [.sl false (cs.map Child.cells)])
        have w2 := get_fresh u2 hcb (x := .box 22 [.sl false (cs.map Child.cells)])
        have w5 := get_fresh u5 hcb (x := .box 22 [.sl false (cs.map Child.cells)])
        have w6 := get_fresh u6 hcb (x := .box 22 [.sl false (cs.map Child.cells)])
        have w7 := AHeap.get_put_same cb (.box 22 [.sl false (cs.map Child.cells)]) M3
        have w3 := r3.put hcb (ob := .box 22 [.sl false (cs.map Child.cells)])
        have w4 := r4.ext (Ext.fresh hcb (o := .box 22 [.sl false (cs.map Child.cells)]))
        generalize M3.put cb (.box 22 [.sl false (cs.map Child.cells)]) = G at w1 w2 w3 w4 w5 w6 w7 ⊢
        clear u1 u2 u5 u6 r3 r4 hK3 hcb hlook
        refine AWp_cut [2, 3, 10, 11, 12, 13, 14, 70] (vs := [.v (.int .i64 dp), .v (.int .i64 limit), .v (.map (some mi)), .v (.map (some ms)), o2, ptrTo B, ptrTo p, .fn (.func 32) [] [ptrTo cb]]) rfl ?_
        simp only [List.zip_cons_cons, List.zip_nil_right]
        apply AWp_rangeFunc; exact (by simp only [go_sem]; try rfl); intro y hy
        generalize hlo : AObj.loop 85 _ _ _ _ LoopState.ready none = lo
        have y1 := get_ne_fresh w1 hy
        have y2 := get_ne_fresh w2 hy
        have y5 := get_ne_fresh w5 hy
        have y6 := get_ne_fresh w6 hy
        have y7 := get_ne_fresh w7 hy
        have hHy : H.get y = none := none_of_ext w3 hy
        have hlor : ∀ sz sn es, lo ≠ .row 35 sz sn es := by rw [← hlo]; intro _ _ _ h; cases h
        refine iterC_c y cb false cs (by omega) (fun n L => L.get y = some lo ∧ L.get cb = some (.box 22 [.sl false (cs.map Child.cells)]) ∧ L.get p = some (.box 35 [.s x.id, .s x.by_, .v (.int .i64 x.deep)]) ∧ L.get ms = some (.smap (seenT (os ++ [x]))) ∧ L.get mi = some (.smap (idxE l)) ∧ Ext H L ∧
          RowAt 35 3 H L ((os ++ [x]).map Step.cells) o2 ∧ ∃ sv2, L.get B = some (.box 31 [sv2]) ∧ HeldAt 35 3 L ((st.dropLast ++ pushed x cs n).map Step.cells) sv2 ∧ (∀ b n, sv2 = .row b 3 n → H.get b = none) ∧ Apart o2 sv2) _ (fun n L h => h.2.1) ?_ ?_ _ ?_
        · rintro n c L hc ⟨g1, g2, g3, g4, g5, g6, g7, sv2, g8, g9, g10, g11⟩
          rw [← hlo] at g1
          apply AYield_intro g1 rfl; decide
          rw [show c.cells = [.s c.id, .s c.ord] from rfl]
          simp only [putAll, List.toList_toArray]
          (repeat' (first | (refine AWp_seq_k (fun K hK => ?_)) | (apply s_region) | (apply s_q; (first | decide | (dsimp only; decide)); rfl; (solve | (simp only [go_sem]; try rfl))) | (apply s_nil; try simp only [AThen, ABlock]; try (first | (refine hK _ _ ?_; clear hK K) | (clear hK K; refine hK _ _ ?_; clear hK K) | (clear hK K; clear hK K; refine hK _ _ ?_; clear hK K))) | (apply AWp_block) | (apply AWp_skip; try simp only [AThen, ABlock]; try (first | (refine hK _ _ ?_; clear hK K) | (clear hK K; refine hK _ _ ?_; clear hK K) | (clear hK K; clear hK K; refine hK _ _ ?_; clear hK K))) | (apply AWp_exit; simp only [AThen, ABlock, reduceIte, Nat.reduceEqDiff]; try (first | (refine hK _ _ ?_; clear hK K) | (clear hK K; refine hK _ _ ?_; clear hK K) | (clear hK K; clear hK K; refine hK _ _ ?_; clear hK K))) | (apply AWp_ret; try simp only [AThen, ABlock]; apply end_ret; rfl; try simp only [AFr.get, reduceIte, Nat.reduceEqDiff]) | (apply s_store; (solve | (simp only [go_sem]; try rfl)); (solve | (simp only [go_sem]; try rfl)); (solve | (simp only [go_sem]; try rfl))) | (apply s_mapput; (solve | (simp only [go_sem]; try rfl)); (solve | (simp only [go_sem]; try rfl)); (solve | (simp only [go_sem]; try rfl)); (solve | (simp only [go_sem]; try rfl))) | (apply s_alloc; (first | decide | (dsimp only; decide)); (first | exact zc_31 | exact zc_35 | exact zc_42); intro b hb) | (apply s_smap; (first | decide | (dsimp only; decide)); exact mp_43; intro b hb) | (apply s_lit; (first | decide | (dsimp only; decide)); exact el_31; (solve | (simp only [go_sem]; try rfl)); (solve | (simp only [go_sem]; try rfl)); decide)))
          obtain ⟨pc, hpb⟩ : ∃ pc, pc = b := ⟨_, rfl⟩
          have hpc := hb
          rw [← hpb] at hpc ⊢
          clear hb hpb b
          have a1 := get_fresh g1 hpc (x := .box 42 [.s c.id, .s c.ord])
          have a2 := get_fresh g2 hpc (x := .box 42 [.s c.id, .s c.ord])
          have a3 := get_fresh g3 hpc (x := .box 42 [.s c.id, .s c.ord])
          have a4 := get_fresh g4 hpc (x := .box 42 [.s c.id, .s c.ord])
          have a5 := get_fresh g5 hpc (x := .box 42 [.s c.id, .s c.ord])
          have a6 := g6.put hpc (ob := .box 42 [.s c.id, .s c.ord])
          have a7 := g7.ext (Ext.fresh hpc (o := .box 42 [.s c.id, .s c.ord]))
          have a8 := get_fresh g8 hpc (x := .box 42 [.s c.id, .s c.ord])
          have a9 := g9.fresh hpc (o' := .box 42 [.s c.id, .s c.ord])
          have b0 := AHeap.get_put_same pc (.box 42 [.s c.id, .s c.ord]) L
          have ypc := (get_ne_fresh g1 hpc).symm
          generalize L.put pc (.box 42 [.s c.id, .s c.ord]) = M at a1 a2 a3 a4 a5 a6 a7 a8 a9 b0 ⊢
          clear g1 g2 g3 g4 g5 g6 g7 g8 g9 hpc L
          refine ⟨a1, ?_⟩
          generalize hlb : AObj.loop 85 _ _ _ _ LoopState.busy none = lb
          have c2 : (M.put y lb).get cb = some (.box 22 [.sl false (cs.map Child.cells)]) := by rw [AHeap.get_put, if_neg y7]; exact a2
          have c3 : (M.put y lb).get p = some (.box 35 [.s x.id, .s x.by_, .v (.int .i64 x.deep)]) := by rw [AHeap.get_put, if_neg y6]; exact a3
          have c4 : (M.put y lb).get ms = some (.smap (seenT (os ++ [x]))) := by rw [AHeap.get_put, if_neg y1]; exact a4
          have c5 : (M.put y lb).get mi = some (.smap (idxE l)) := by rw [AHeap.get_put, if_neg y2]; exact a5
          have c6 := a6.over (o := lb) hHy
          have hnr : ∀ sz sn es, (AObj.loop 85 [(2, .v (.int .i64 dp)), (3, .v (.int .i64 limit)), (10, .v (.map (some mi))), (11, .v (.map (some ms))), (12, o2), (13, ptrTo B), (14, ptrTo p), (70, .fn (.func 32) [] [ptrTo cb])] #[] .skip .skip .ready none) ≠ .row 35 sz sn es := by intro _ _ _ h; cases h
          have c7 := a7.put a1 (fun _ _ _ h => by cases h) (o' := lb)
          have c8 : (M.put y lb).get B = some (.box 31 [sv2]) := by rw [AHeap.get_put, if_neg y5]; exact a8
          have c9 := a9.put a1 (fun _ _ _ h => by cases h) (o' := lb)
          have d0 : (M.put y lb).get pc = some (.box 42 [.s c.id, .s c.ord]) := by rw [AHeap.get_put, if_neg ypc]; exact b0
          have d1 := AHeap.get_put_same y lb M
          have hdx := (hI.ds x (List.mem_of_getLast? hx))
          have edp : IntKind.i64.wrap (x.deep + 1) = x.deep + 1 := wrap64 (by omega)
          have hpl : (pushed x cs (n + 1)).length ≤ 10 := by simp [pushed]; omega
          generalize M.put y lb = N at c2 c3 c4 c5 c6 c7 c8 c9 d0 d1 ⊢
          clear a1 a2 a3 a4 a5 a6 a7 a8 a9 b0 hnr M
          have hlen3 : ∀ e ∈ ((st.dropLast ++ pushed x cs (n + 1)).map Step.cells), e.length = 3 := fun e he => by
            obtain ⟨d, _, rfl⟩ := List.mem_map.1 he; rfl
          have hne : ∀ q o', N.get q = some o' → (∀ sz sn es, o' ≠ .row 35 sz sn es) → ∀ b, sv2 = .row b 3 ((st.dropLast ++ pushed x cs (n + 1)).map Step.cells).length → q ≠ b := by
            rintro q o' hq' ho' b hb rfl
            rcases c9 with h1 | ⟨b2, h1, h2⟩
            · rw [h1] at hb; cases hb
            · rw [h1] at hb; cases hb
              rw [h2] at hq'; cases hq'
              exact ho' _ _ _ rfl
          have hstd : st.dropLast.length ≤ st.length := by simp
          (repeat' (first | (refine AWp_seq_k (fun K hK => ?_)) | (apply s_region) | (apply s_q; (first | decide | (dsimp only; decide)); rfl; (solve | (simp only [go_sem, c3, c8, d0, edp]; try rfl))) | (apply s_nil; try simp only [AThen, ABlock]; try (first | (refine hK _ _ ?_; clear hK K) | (clear hK K; refine hK _ _ ?_; clear hK K) | (clear hK K; clear hK K; refine hK _ _ ?_; clear hK K))) | (apply AWp_block) | (apply AWp_skip; try simp only [AThen, ABlock]; try (first | (refine hK _ _ ?_; clear hK K) | (clear hK K; refine hK _ _ ?_; clear hK K) | (clear hK K; clear hK K; refine hK _ _ ?_; clear hK K))) | (apply AWp_exit; simp only [AThen, ABlock, reduceIte, Nat.reduceEqDiff]; try (first | (refine hK _ _ ?_; clear hK K) | (clear hK K; refine hK _ _ ?_; clear hK K) | (clear hK K; clear hK K; refine hK _ _ ?_; clear hK K))) | (apply AWp_ret; try simp only [AThen, ABlock]; apply end_ret; rfl; try simp only [AFr.get, reduceIte, Nat.reduceEqDiff]) | (apply s_store; (solve | (simp only [go_sem, c3, c8, d0, edp]; try rfl)); (solve | (simp only [go_sem, c3, c8, d0, edp]; try rfl)); (solve | (simp only [go_sem, c3, c8, d0, edp]; try rfl))) | (apply s_mapput; (solve | (simp only [go_sem, c3, c8, d0, edp]; try rfl)); (solve | (simp only [go_sem, c3, c8, d0, edp]; try rfl)); (solve | (simp only [go_sem, c3, c8, d0, edp]; try rfl)); (solve | (simp only [go_sem, c3, c8, d0, edp]; try rfl))) | (apply s_alloc; (first | decide | (dsimp only; decide)); (first | exact zc_31 | exact zc_35 | exact zc_42); intro b hb) | (apply s_smap; (first | decide | (dsimp only; decide)); exact mp_43; intro b hb) | (apply s_lit; (first | decide | (dsimp only; decide)); exact el_31; (solve | (simp only [go_sem, c3, c8, d0, edp]; try rfl)); (solve | (simp only [go_sem, c3, c8, d0, edp]; try rfl)); decide) | (apply s_append; (first | decide | (dsimp only; decide)); (solve | (simp only [go_sem, c3, c8, d0, edp]; try rfl)); (solve | (simp only [go_sem, c3, c8, d0, edp]; try rfl)); apply AApp_push el_31 c9 hlen3 (nes := [(pushC x c).cells]) (fun M => src_sl tk_31 (fun e he => by simp at he; subst he; exact step_one _)) (by simp) (by simp; omega) (by simp; omega); intro nb L2 e1 e2)))
          have f1 := (e2 y _ d1 (hne y _ d1 (by rw [← hlb]; intro _ _ _ h; cases h))).1
          have f2 := (e2 cb _ c2 (hne cb _ c2 (by intro _ _ _ h; cases h))).1
          have f3 := (e2 p _ c3 (hne p _ c3 (by intro _ _ _ h; cases h))).1
          have f4 := (e2 ms _ c4 (hne ms _ c4 (by intro _ _ _ h; cases h))).1
          have f5 := (e2 mi _ c5 (hne mi _ c5 (by intro _ _ _ h; cases h))).1
          have f6 : Ext H L2 := fun q o' hq' => (e2 q o' (c6 q o' hq') (by rintro b hb rfl; rw [g10 _ _ hb] at hq'; cases hq')).1
          have f8 := (e2 B _ c8 (hne B _ c8 (by intro _ _ _ h; cases h))).1
          have f10 : H.get nb = none := by
            cases hx2 : H.get nb with
            | none => rfl
            | some o' => exact absurd rfl (e2 nb o' (c6 nb o' hx2) (by rintro b hb rfl; rw [g10 _ _ hb] at hx2; cases hx2)).2
          have f7 : RowAt 35 3 H L2 ((os ++ [x]).map Step.cells) o2 := by
            rcases c7 with h1 | ⟨b2, h1, h2, h3⟩
            · exact .inl h1
            · exact .inr ⟨b2, h1, h2, (e2 b2 _ h3 (by rintro b hb rfl; exact g11 _ _ _ hb h2)).1⟩
          have f11 : ∀ k, o2 ≠ .row nb 3 k := by
            rintro k hk
            rcases c7 with ⟨h1, _⟩ | ⟨b2, h1, h2, h3⟩
            · rw [hk] at h1; cases h1
            · rw [hk] at h2; cases h2
              exact (e2 nb _ h3 (by rintro b hb rfl; exact g11 _ _ _ hb hk)).2 rfl
          clear e2 hne c2 c3 c4 c5 c6 c7 c8 c9 d0 d1
          have f12 : (L2.put B (.box 31 [.row nb 3 ((st.dropLast ++ pushed x cs (n + 1)).map Step.cells ++ [(pushC x c).cells]).length])).get y = some lb := by rw [AHeap.get_put, if_neg (Ne.symm y5)]; exact f1
          have hcbB : cb ≠ B := by rintro rfl; rw [f8] at f2; cases f2
          have hnbB : nb ≠ B := by rintro rfl; rw [f8] at e1; cases e1
          have hnby : nb ≠ y := by rintro rfl; rw [f1] at e1; rw [← hlb] at e1; cases e1
          have hpp : ((st.dropLast ++ pushed x cs (n + 1)).map Step.cells ++ [(pushC x c).cells]) = (st.dropLast ++ pushed x cs n).map Step.cells := by
            rw [pushed_step hc]; simp
          (repeat' (first | (refine AWp_seq_k (fun K hK => ?_)) | (apply s_region) | (apply s_q; (first | decide | (dsimp only; decide)); rfl; (solve | (simp only [go_sem, f8]; try rfl))) | (apply s_nil; try simp only [AThen, ABlock]; try (first | (refine hK _ _ ?_; clear hK K) | (clear hK K; refine hK _ _ ?_; clear hK K) | (clear hK K; clear hK K; refine hK _ _ ?_; clear hK K))) | (apply AWp_block) | (apply AWp_skip; try simp only [AThen, ABlock]; try (first | (refine hK _ _ ?_; clear hK K) | (clear hK K; refine hK _ _ ?_; clear hK K) | (clear hK K; clear hK K; refine hK _ _ ?_; clear hK K))) | (apply AWp_exit; simp only [AThen, ABlock, reduceIte, Nat.reduceEqDiff]; try (first | (refine hK _ _ ?_; clear hK K) | (clear hK K; refine hK _ _ ?_; clear hK K) | (clear hK K; clear hK K; refine hK _ _ ?_; clear hK K))) | (apply AWp_ret; try simp only [AThen, ABlock]; apply end_ret; rfl; try simp only [AFr.get, reduceIte, Nat.reduceEqDiff]) | (apply s_store; (solve | (simp only [go_sem, f8]; try rfl)); (solve | (simp only [go_sem, f8]; try rfl)); (solve | (simp only [go_sem, f8]; try rfl))) | (apply s_mapput; (solve | (simp only [go_sem, f8]; try rfl)); (solve | (simp only [go_sem, f8]; try rfl)); (solve | (simp only [go_sem, f8]; try rfl)); (solve | (simp only [go_sem, f8]; try rfl))) | (apply s_alloc; (first | decide | (dsimp only; decide)); (first | exact zc_31 | exact zc_35 | exact zc_42); intro b hb) | (apply s_smap; (first | decide | (dsimp only; decide)); exact mp_43; intro b hb) | (apply s_lit; (first | decide | (dsimp only; decide)); exact el_31; (solve | (simp only [go_sem, f8]; try rfl)); (solve | (simp only [go_sem, f8]; try rfl)); decide)))
          simp only [ABlock, ARound]
          refine ⟨by rw [hlb]; exact f12, .inl ⟨by trivial, ?_, ?_, ?_, ?_, ?_, ?_, ?_, .row nb 3 ((st.dropLast ++ pushed x cs (n + 1)).map Step.cells ++ [(pushC x c).cells]).length, ?_, ?_, ?_, ?_⟩⟩
          · rw [AHeap.get_put_same, hlo]
          · rw [AHeap.get_put, if_neg y7, AHeap.get_put, if_neg hcbB]; exact f2
          · rw [AHeap.get_put, if_neg y6, AHeap.get_put, if_neg (Ne.symm hpB)]; exact f3
          · rw [AHeap.get_put, if_neg y1, AHeap.get_put, if_neg hBms]; exact f4
          · rw [AHeap.get_put, if_neg y2, AHeap.get_put, if_neg hBmi]; exact f5
          · exact (f6.over hHB).over hHy
          · refine (f7.put f8 (fun _ _ _ h => by cases h)).put f12 (fun _ _ _ h => ?_)
            rw [← hlb] at h; cases h
          · rw [AHeap.get_put, if_neg y5, AHeap.get_put_same]
          · rw [hpp] at e1 ⊢
            exact .inr ⟨nb, rfl, by rw [AHeap.get_put, if_neg hnby, AHeap.get_put, if_neg hnbB]; exact e1⟩
          · intro b n h; cases h; exact f10
          · intro b n k h; cases h; exact f11 k
        · rintro L ⟨g1, g2, g3, g4, g5, g6, g7, sv2, g8, g9, g10, g11⟩
          rw [epush] at g9
          refine ⟨_, .ready, none, by rw [g1, ← hlo], by simp, ?_⟩
          simp only [ABlock, AThen]
          refine ⟨(f, st.dropLast ++ push l x, os ++ [x], sv2, o2, L.del y), by simp only; omega, ⟨hW2, hI2, ?_⟩, by trivial, by trivial⟩
          exact ⟨g6.del hHy, by rw [AHeap.get_del, if_neg y5]; exact g8, by rw [AHeap.get_del, if_neg y1]; exact g4, by rw [AHeap.get_del, if_neg y2]; exact g5, g9.del g1 hlor, g10, g7.del g1 hlor, g11⟩
        · refine ⟨AHeap.get_put_same _ _ _, get_fresh w7 hy, get_fresh w6 hy, get_fresh w1 hy, get_fresh w2 hy, w3.put hy, w4.ext (Ext.fresh hy), .sl true (st.dropLast.map Step.cells), get_fresh w5 hy, ?_, (by intro b n h; cases h), (by intro b n k h; cases h)⟩
          have : pushed x cs cs.length = [] := by simp [pushed]
          rw [this, List.append_nil]
          exact .inl rfl
end Go.Proofs.Ytloobmklfjhfpaa
