/-
  Power: names with levels: find, User, Type, Start, numbers, level. Contracts.
-/
import Derived.Test.YtniaafncmnilgaaGreatDoorCH
set_option linter.unusedSimpArgs false
set_option linter.unusedVariables false
set_option maxRecDepth 100000
namespace Go.Proofs.YtniaafncmnilgaaGreatDoor
open Go Go.AL
attribute [local irreducible] AOps AWp SOps AE AT ACall AApp

abbrev Nm := List UInt8 × Int
def nmCells (x : Nm) : List AV := [.s x.1, .v (.int .i64 x.2)]
theorem nm_one (a : Nm) : (nmCells a).length = 2 ∧ (nmCells a).all AV.one = true := ⟨rfl, rfl⟩
theorem nm_at {l : List Nm} {i : Nat} {c : Nm} (h : l[i]? = some c) : (l.map nmCells)[i]? = some [.s c.1, .v (.int .i64 c.2)] := by rw [List.getElem?_map, h]; rfl
theorem loosen_nms (l : List Nm) : AV.loosenss (l.map nmCells) = l.map nmCells := loosenss_map (fun _ => rfl) l
theorem snap_nms (b sz : Nat) (es : List (List AV)) (l : List Nm) : AV.snapss b sz es (l.map nmCells) = l.map nmCells := snapss_map (fun _ => rfl) l
/-- the first level under a name -/
def fndL (l : List Nm) (s : List UInt8) : Int × Bool := match l.find? (fun x => decide (x.1 = s)) with | some x => (x.2, true) | none => (0, false)
structure Lv where
  ban : Int
  kick : Int
  invite : Int
  redact : Int
  state : Int
  events : Int
  users : Int
  byUser : List Nm
  byType : List Nm
def Lv.nums (l : Lv) : List Int := [l.ban, l.kick, l.invite, l.redact, l.state, l.events, l.users]
def Lv.cells (l : Lv) : List AV := [.v (.int .i64 l.ban), .v (.int .i64 l.kick), .v (.int .i64 l.invite), .v (.int .i64 l.redact), .v (.int .i64 l.state), .v (.int .i64 l.events), .v (.int .i64 l.users), .sl false (l.byUser.map nmCells), .sl false (l.byType.map nmCells)]
def Lv.user (l : Lv) (s : List UInt8) : Int := if (fndL l.byUser s).2 then (fndL l.byUser s).1 else l.users
def Lv.type (l : Lv) (s : List UInt8) (state : Bool) : Int := if (fndL l.byType s).2 then (fndL l.byType s).1 else if state then l.state else l.events
def lvStart (s : List UInt8) : Lv := ⟨50, 50, 0, 50, 0, 0, 0, [(s, 100)], []⟩
/-- rows are not too long -/
def Lv.Len (l : Lv) : Prop := l.byUser.length ≤ 1000000000 ∧ l.byType.length ≤ 1000000000

theorem findB_c (q : Nat) (s : List UInt8) (x : Nm) (H : AHeap) (hq : H.get q = some (.box 9 [.s s])) (Kc : AV → AHeap → Prop) (h : Kc (.v (.bool (decide (x.1 = s)))) H) : ACall X 67 [.agg (nmCells x), ptrTo q] H Kc := by
  rw [nmCells]
  refine ACall.drop ?_
  refine ACall_intro Tryz.func67 rfl (by kernel_rfl) (by rw [Tryz.ntmps67]; simp) ?_; rw [Tryz.ntmps67]; simp only [frame0, Nat.reduceAdd]
  refine AWp_seq_k (fun K hK => ?_); apply s_region
  apply s_box; decide; exact (by simp only [go_sem]; try rfl); exact (by simp only [go_sem]; try rfl); intro p hp
  (apply s_q; decide; rfl; (simp only [go_sem]; rfl); apply s_nil; simp only [AThen, ABlock]; refine hK _ _ ?_; clear hK K; refine AWp_seq_k (fun K hK => ?_); apply s_region; (iterate 2 (apply s_q; decide; rfl; (simp only [go_sem]; rfl))))
  have g1 := get_fresh hq hp (x := .box 58 [.s x.1, .v (.int .i64 x.2)])
  ((iterate 3 (apply s_q; decide; rfl; (simp only [go_sem, g1]; rfl))); apply s_nil; simp only [AThen, ABlock]; refine hK _ _ ?_; clear hK K; apply AWp_ret)
  exact ⟨H, Ext.fresh hp, h⟩
set_option maxHeartbeats 1000000 in
theorem indexFuncN_c (g : FuncId) (cap : List AV) (p : Nm → Bool) (t : Bool) (l : List Nm) (hl : l.length ≤ 4611686018427387904) (H : AHeap) (hg : ∀ x ∈ l, ∀ K : AV → AHeap → Prop, K (.v (.bool (p x))) H → ACall X g ([.agg (nmCells x)] ++ cap) H K) (Kc : AV → AHeap → Prop)
    (h : Kc (.v (.int .i64 (firstI p l))) H) : ACall X 66 [.sl t (l.map nmCells), .fn (.func g) [] cap] H Kc := by
  refine ACall_intro Tryz.func66 rfl (by kernel_rfl) (by rw [Tryz.ntmps66]; simp) ?_; rw [Tryz.ntmps66]; simp only [frame0, Nat.reduceAdd]
  (refine AWp_seq_k (fun K hK => ?_); apply s_region; apply s_q; decide; rfl; (simp only [go_sem]; rfl); apply s_nil; simp only [AThen, ABlock]; refine hK _ _ ?_; clear hK K; (iterate 2 (refine AWp_seq_k (fun K hK => ?_))); apply s_region; (iterate 3 (apply s_q; decide; rfl; (simp only [go_sem]; rfl))); apply s_nil; simp only [AThen, ABlock]; refine hK _ _ ?_; clear hK K; apply AWp_block)
  refine AWp_loop_s (σ := Nat) [0, 1, 7, 8] (fun i => [.sl t (l.map nmCells), .fn (.func g) [] cap, .v (.int .i64 l.length), .v (.int .i64 i)]) (fun _ => H) (fun i => l.length - i) (fun i => i ≤ l.length ∧ ∀ x ∈ l.take i, p x = false) 0 ⟨Nat.zero_le _, by simp⟩ rfl rfl (fun i hi => ?_)
  simp only [List.zip_cons_cons, List.zip_nil_right]
  (refine AWp_seq_k (fun K hK => ?_); apply s_region; apply s_q; decide; rfl; (simp only [go_sem]; rfl); apply s_nil; simp only [AThen, ABlock]; refine hK _ _ ?_; clear hK K; refine AWp_seq_k (fun K hK => ?_))
  refine cond_split (by simp only [go_sem]; try rfl) (fun hd => ?_) (fun hd => ?_)
  · have hlt : i < l.length := by simpa using hd
    obtain ⟨x, hm⟩ := gete hlt
    have hgx := nm_at hm
    have hxm := List.mem_of_getElem? hm
    (apply AWp_skip; simp only [AThen, ABlock]; refine hK _ _ ?_; clear hK K; refine AWp_seq_k (fun K hK => ?_); apply AWp_block; refine AWp_seq_k (fun K hK => ?_); apply s_region; (iterate 2 (apply s_q; decide; rfl; (simp only [go_sem, hgx]; rfl))); apply s_nil; simp only [AThen, ABlock]; refine hK _ _ ?_; clear hK K; refine AWp_seq_k (fun K hK => ?_); apply s_region; (iterate 5 (apply s_q; decide; rfl; (simp only [go_sem, hgx]; rfl))); apply s_call; decide; (simp only [go_sem, hgx]; rfl); (simp only [go_sem, hgx]; rfl); apply hg x hxm; apply s_nil; simp only [AThen, ABlock]; refine hK _ _ ?_; clear hK K)
    refine cond_split (by simp only [go_sem]; try rfl) (fun hq => ?_) (fun hq => ?_)
    · (refine AWp_seq_k (fun K hK => ?_); apply s_region; (iterate 2 (apply s_q; decide; rfl; (simp only [go_sem]; rfl))); apply s_nil; simp only [AThen, ABlock]; refine hK _ _ ?_; clear hK K; apply AWp_ret; simp only [AThen, ABlock]; apply end_ret; rfl; simp only [AFr.get, reduceIte, Nat.reduceEqDiff])
      exact finI h (firstI_some hi.2 hm hq).symm
    · (apply AWp_skip; simp only [AThen, ABlock]; refine hK _ _ ?_; clear hK K; apply s_region; (iterate 2 (apply s_q; decide; rfl; (simp only [go_sem]; rfl))); apply s_nil; simp only [AThen, ABlock])
      refine ⟨i + 1, by omega, ⟨by omega, ?_⟩, ?_, by trivial⟩
      · rw [List.take_add_one, hm]
        intro y hy
        rcases List.mem_append.1 hy with hy | hy
        · exact hi.2 y hy
        · simp at hy; subst hy; exact hq
      · simp only [getAll, List.map_cons, List.map_nil, AFr.get, reduceIte, Nat.reduceEqDiff]
        rw [wrapS hlt (by omega)]; try rfl
  · have hge : l.length ≤ i := by simpa using hd
    (apply AWp_exit; simp only [AThen, ABlock, reduceIte, Nat.reduceEqDiff]; clear hK K; refine hK _ _ ?_; clear hK K; refine AWp_seq_k (fun K hK => ?_); apply s_region; apply s_q; decide; rfl; (simp only [go_sem]; rfl); apply s_nil; simp only [AThen, ABlock]; refine hK _ _ ?_; clear hK K; apply AWp_ret)
    have := hi.2
    rw [List.take_of_length_le hge] at this
    exact finI h (firstI_none this).symm
theorem firstI_cases {α : Type} (p : α → Bool) (l : List α) : (firstI p l = -1 ∧ l.find? p = none) ∨ ∃ i x, firstI p l = ((i : Nat) : Int) ∧ l[i]? = some x ∧ l.find? p = some x := by
  rw [firstI]
  cases h : l.findIdx? p with
  | none =>
    left
    refine ⟨rfl, ?_⟩
    rw [List.findIdx?_eq_none_iff] at h
    rw [List.find?_eq_none]
    intro x hx
    simp [h x hx]
  | some i =>
    right
    obtain ⟨hi, h1, h2⟩ := List.findIdx?_eq_some_iff_getElem.1 h
    refine ⟨i, l[i], rfl, List.getElem?_eq_getElem hi, ?_⟩
    rw [List.find?_eq_some_iff_getElem]
    exact ⟨h1, i, hi, rfl, fun j hj => by simpa using h2 j hj⟩
set_option maxHeartbeats 1000000 in
theorem find_c (t : Bool) (l : List Nm) (hl : l.length ≤ 4611686018427387904) (s : List UInt8) (H : AHeap) (Kc : AV → AHeap → Prop) (h : Kc (.tup [.v (.int .i64 (fndL l s).1), .v (.bool (fndL l s).2)]) H) : ACall X 49 [.sl t (l.map nmCells), .s s] H Kc := by
  refine ACall.drop ?_
  refine ACall_intro Tryz.func49 rfl (by kernel_rfl) (by rw [Tryz.ntmps49]; simp) ?_; rw [Tryz.ntmps49]; simp only [frame0, Nat.reduceAdd]
  refine AWp_seq_k (fun K hK => ?_); apply s_region
  apply s_box; decide; exact (by simp only [go_sem]; try rfl); exact (by simp only [go_sem]; try rfl); intro q hq
  have g1 := AHeap.get_put_same q (.box 9 [.s s]) H
  have hE := Ext.fresh hq (o := .box 9 [.s s])
  generalize H.put q (.box 9 [.s s]) = M at g1 hE ⊢
  ((iterate 2 (apply s_q; decide; rfl; (simp only [go_sem]; rfl))); apply s_nil; simp only [AThen, ABlock]; refine hK _ _ ?_; clear hK K; refine AWp_seq_k (fun K hK => ?_); apply s_region; (iterate 2 (apply s_q; decide; rfl; (simp only [go_sem]; rfl))); apply s_call; decide; (simp only [go_sem]; rfl); (simp only [go_sem]; rfl); apply indexFuncN_c 67 [ptrTo q] (fun x => decide (x.1 = s)) t l hl _ (fun x _ K hK => findB_c q s x _ g1 K hK); apply s_q; decide; rfl; (simp only [go_sem]; rfl); apply s_nil; simp only [AThen, ABlock]; refine hK _ _ ?_; clear hK K; (iterate 2 (refine AWp_seq_k (fun K hK => ?_))); apply s_region; (iterate 2 (apply s_q; decide; rfl; (simp only [go_sem]; rfl))); apply s_nil; simp only [AThen, ABlock]; refine hK _ _ ?_; clear hK K)
  rcases firstI_cases (fun x : Nm => decide (x.1 = s)) l with ⟨e1, e2⟩ | ⟨i, x, e1, e2, e3⟩
  · rw [e1]
    rw [fndL, e2] at h
    refine cond_split (by simp only [go_sem]; try rfl) (fun hc => ?_) (fun hc => ?_)
    · (refine AWp_seq_k (fun K hK => ?_); apply s_region; (iterate 2 (apply s_q; decide; rfl; (simp only [go_sem]; rfl))); apply s_nil; simp only [AThen, ABlock]; refine hK _ _ ?_; clear hK K; apply AWp_ret; simp only [AThen, ABlock]; apply end_ret; rfl; simp only [AFr.get, reduceIte, Nat.reduceEqDiff])
      exact ⟨H, hE, h⟩
    · cases hc
  · rw [e1]
    rw [fndL, e3] at h
    have hgx := nm_at e2
    refine cond_split (by simp only [go_sem]; try rfl) (fun hc => ?_) (fun hc => ?_)
    · simp at hc; omega
    · (apply AWp_skip; simp only [AThen, ABlock]; refine hK _ _ ?_; clear hK K; refine AWp_seq_k (fun K hK => ?_); apply s_region; (iterate 7 (apply s_q; decide; rfl; (simp only [go_sem, hgx]; rfl))); apply s_nil; simp only [AThen, ABlock]; refine hK _ _ ?_; clear hK K; apply AWp_ret)
      exact ⟨H, hE, h⟩
end Go.Proofs.YtniaafncmnilgaaGreatDoor
