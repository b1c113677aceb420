/-
  Counts of reactions, in plain words; the comparator of Reactions. Contracts.
-/
import Derived.Test.YtmloandpjbimkaaW25F
import Derived.Test.YtmloandpjbimkaaCMD
import Derived.Test.YtmloandpjbimkaaAL4
set_option linter.unusedSimpArgs false
set_option linter.unusedVariables false
set_option maxRecDepth 100000
namespace Go.Proofs.Ytmloandpjbimkaa
open Go Go.AL
attribute [local irreducible] AOps AWp SOps AE AT ACall AApp

structure Cnt where
  key : List UInt8
  users : List (List UInt8)
def Cnt.cells (c : Cnt) : List AV := [.s c.key, .sl false (c.users.map strCells)]
theorem cnt_one (c : Cnt) : c.cells.length = 2 ∧ c.cells.all AV.one = true := ⟨rfl, rfl⟩
theorem Cnt.snap (b sz : Nat) (es : List (List AV)) (c : Cnt) : AV.snaps b sz es c.cells = c.cells := by
  simp only [Cnt.cells, AV.snaps, AV.snap, snap_strs]
theorem snap_cnts (b sz : Nat) (es : List (List AV)) (l : List Cnt) : AV.snapss b sz es (l.map Cnt.cells) = l.map Cnt.cells := snapss_map (Cnt.snap b sz es) l
theorem cnt_at {l : List Cnt} {i : Nat} {c : Cnt} (h : l[i]? = some c) : (l.map Cnt.cells)[i]? = some [.s c.key, .sl false (c.users.map strCells)] := by rw [List.getElem?_map, h]; rfl
def mkAgg (vs : List Value) : Value := .agg vs.toArray
theorem mk_agg : ∀ F S (vs : List Value) (bs : List AV), bs.length = 2 → VRs F S vs bs → VR F S (mkAgg vs) (.agg bs) := fun F S vs bs _ h => by
  unfold mkAgg; exact .agg h

/-- each once -/
def dstep (out : List (List UInt8)) (k : List UInt8) : List (List UInt8) := if k ∈ out then out else out ++ [k]
def dedupL (l : List (List UInt8)) : List (List UInt8) := l.foldl dstep []
theorem dedup_snoc (l : List (List UInt8)) (k : List UInt8) : dedupL (l ++ [k]) = dstep (dedupL l) k := by rw [dedupL, List.foldl_append]; rfl
theorem dedup_ok (l : List (List UInt8)) : (dedupL l).Nodup ∧ ∀ x, x ∈ dedupL l ↔ x ∈ l := by
  have : ∀ (l out : List (List UInt8)), out.Nodup → (l.foldl dstep out).Nodup ∧ ∀ x, x ∈ l.foldl dstep out ↔ x ∈ out ∨ x ∈ l := fun l => by
    induction l with
    | nil => intro out h; exact ⟨h, by simp⟩
    | cons a l ih =>
      intro out h
      have h2 : (dstep out a).Nodup := by
        unfold dstep; split
        · exact h
        · rename_i hn
          refine List.nodup_append.2 ⟨h, by simp, fun x hx y hy => ?_⟩
          simp at hy; subst hy; rintro rfl; exact hn hx
      have h3 : ∀ x, x ∈ dstep out a ↔ x ∈ out ∨ x = a := fun x => by
        unfold dstep; split
        · rename_i hn
          exact ⟨.inl, fun h => h.elim id (fun e => e ▸ hn)⟩
        · simp
      obtain ⟨i1, i2⟩ := ih (dstep out a) h2
      refine ⟨i1, fun x => ?_⟩
      rw [List.foldl_cons, i2, h3, List.mem_cons, or_assoc]
  have := this l [] .nil
  exact ⟨this.1, fun x => by rw [dedupL, this.2]; simp⟩
theorem dedup_len (l : List (List UInt8)) : (dedupL l).length ≤ l.length := by
  have : ∀ (l out : List (List UInt8)), (l.foldl dstep out).length ≤ out.length + l.length := fun l => by
    induction l with
    | nil => intro out; simp
    | cons a l ih =>
      intro out
      have h1 := ih (dstep out a)
      have h2 : (dstep out a).length ≤ out.length + 1 := by unfold dstep; split <;> simp
      simp only [List.foldl_cons, List.length_cons]; omega
  have := this l []
  simpa [dedupL] using this
def rkey (k : Kn) : List UInt8 := (relOf k.ev).2.2
def usersOf (V : List Kn) (q : List UInt8) : List (List UInt8) := dedupL ((V.filter fun k => decide (rkey k = q)).map (·.ev.sender))
def keysOf (V : List Kn) : List (List UInt8) := dedupL (V.map rkey)
theorem keys_snoc (V : List Kn) (k : Kn) : keysOf (V ++ [k]) = dstep (keysOf V) (rkey k) := by rw [keysOf, List.map_append]; exact dedup_snoc _ _
theorem users_snoc (V : List Kn) (k : Kn) (q : List UInt8) : usersOf (V ++ [k]) q = if rkey k = q then dstep (usersOf V q) k.ev.sender else usersOf V q := by
  rw [usersOf, List.filter_append]
  by_cases h : rkey k = q
  · rw [if_pos h, List.filter_cons, if_pos (by simpa using h), List.map_append]
    exact dedup_snoc _ _
  · rw [if_neg h, List.filter_cons, if_neg (by simpa using h)]; simp [usersOf]
theorem mem_keys {V : List Kn} {q : List UInt8} : q ∈ keysOf V ↔ ∃ k ∈ V, rkey k = q := by
  rw [keysOf, (dedup_ok _).2, List.mem_map]
theorem mem_users {V : List Kn} {q u : List UInt8} : u ∈ usersOf V q ↔ ∃ k ∈ V, rkey k = q ∧ k.ev.sender = u := by
  rw [usersOf, (dedup_ok _).2, List.mem_map]
  constructor
  · rintro ⟨k, hk, rfl⟩
    rw [List.mem_filter] at hk
    exact ⟨k, hk.1, by simpa using hk.2, rfl⟩
  · rintro ⟨k, hk, h1, rfl⟩
    exact ⟨k, List.mem_filter.2 ⟨hk, by simpa using h1⟩, rfl⟩
theorem sortL_eq {l m : List (List UInt8)} (h : l.Perm m) : sortL l = sortL m := by
  have tr : ∀ a b c : List UInt8, decide (a ≤ b) = true → decide (b ≤ c) = true → decide (a ≤ c) = true := fun a b c h k => by
    simp only [decide_eq_true_eq] at *; exact List.le_trans h k
  have tt : ∀ a b : List UInt8, (decide (a ≤ b) || decide (b ≤ a)) = true := fun a b => by
    simp only [Bool.or_eq_true, decide_eq_true_eq]; exact List.le_total _ _
  refine List.Perm.eq_of_pairwise (le := fun a b => decide (a ≤ b) = true) (fun a b _ _ h1 h2 => ?_) (List.pairwise_mergeSort tr tt _) (List.pairwise_mergeSort tr tt _) (((List.mergeSort_perm _ _).trans h).trans (List.mergeSort_perm _ _).symm)
  simp only [decide_eq_true_eq] at h1 h2
  exact List.le_antisymm h1 h2
/-- senders of reactions with a key, rising -/
def sendersOf (V : List Kn) (q : List UInt8) : List (List UInt8) := sortL (usersOf V q)
theorem nodup_perm {l m : List (List UInt8)} (hl : l.Nodup) (hm : m.Nodup) (h : ∀ x, x ∈ l ↔ x ∈ m) : l.Perm m := (List.perm_ext_iff_of_nodup hl hm).2 h
theorem senders_congr {V W : List Kn} (h : ∀ x, x ∈ V ↔ x ∈ W) (q : List UInt8) : sendersOf V q = sendersOf W q :=
  sortL_eq (nodup_perm (dedup_ok _).1 (dedup_ok _).1 fun x => by
    show x ∈ usersOf V q ↔ x ∈ usersOf W q
    rw [mem_users, mem_users]; simp only [h])
theorem keys_congr {V W : List Kn} (h : ∀ x, x ∈ V ↔ x ∈ W) : (keysOf V).Perm (keysOf W) := nodup_perm (dedup_ok _).1 (dedup_ok _).1 fun x => by
  show x ∈ keysOf V ↔ x ∈ keysOf W
  rw [mem_keys, mem_keys]; simp only [h]
/-- the counts, in the order in which the keys came -/
def cntsOf (V : List Kn) : List Cnt := (keysOf V).map fun q => ⟨q, sendersOf V q⟩
theorem cnts_congr {V W : List Kn} (h : ∀ x, x ∈ V ↔ x ∈ W) : (cntsOf V).Perm (cntsOf W) := by
  have e : (fun q => (⟨q, sendersOf V q⟩ : Cnt)) = fun q => ⟨q, sendersOf W q⟩ := funext fun q => by rw [senders_congr h]
  rw [cntsOf, e]; exact (keys_congr h).map _
theorem cnts_nodup (V : List Kn) : ((cntsOf V).map (·.key)).Nodup := by
  rw [cntsOf, List.map_map]
  have : ((fun c : Cnt => c.key) ∘ fun q => (⟨q, sendersOf V q⟩ : Cnt)) = id := rfl
  rw [this, List.map_id]; exact (dedup_ok _).1
/-- how two counts compare: more users first, keys rising -/
def cmpC (a b : Cnt) : Int := firstNZ [cmp b.users.length a.users.length, cmpS a.key b.key]
/-- does one stand ahead of another one? -/
def ahead (a b : Cnt) : Prop := b.users.length < a.users.length ∨ (a.users.length = b.users.length ∧ a.key < b.key)
theorem cmpC_lt {a b : Cnt} : cmpC a b < 0 ↔ ahead a b := by
  unfold cmpC ahead firstNZ
  by_cases h : cmp (b.users.length : Int) a.users.length = 0
  · rw [if_pos h]
    have := cmp_zero.1 h
    simp only [firstNZ]
    by_cases h2 : cmpS a.key b.key = 0
    · rw [if_pos h2]
      have h3 := cmpS_zero.1 h2
      constructor
      · intro h; omega
      · rintro (h | ⟨_, h⟩)
        · omega
        · rw [h3] at h; exact absurd h (lt_irr _)
    · rw [if_neg h2, cmpS_lt]
      constructor
      · intro h; exact .inr ⟨by omega, h⟩
      · rintro (h | ⟨_, h⟩)
        · omega
        · exact h
  · rw [if_neg h, cmp_lt]
    constructor
    · intro h; left; omega
    · rintro (h2 | ⟨h2, _⟩)
      · omega
      · exact absurd (cmp_zero.2 (by omega)) h
theorem ahead_irr (a : Cnt) : ¬ ahead a a := by rintro (h | ⟨_, h⟩); omega; exact lt_irr _ h
theorem ahead_tr {a b c : Cnt} (h : ahead a b) (k : ahead b c) : ahead a c := by
  rcases h with h | ⟨h1, h2⟩ <;> rcases k with k | ⟨k1, k2⟩
  · left; omega
  · left; omega
  · left; omega
  · right; exact ⟨by omega, lt_tr h2 k2⟩
theorem ahead_tot {a b : Cnt} (h : ¬ ahead a b) (k : ¬ ahead b a) : a.key = b.key := by
  unfold ahead at h k
  rw [not_or, not_and] at h k
  have e : a.users.length = b.users.length := by omega
  rcases lt_tri a.key b.key with h1 | h1 | h1
  · exact absurd h1 (h.2 e)
  · exact h1
  · exact absurd h1 (k.2 e.symm)
theorem notAhead_tr {a b c : Cnt} (h : ¬ ahead a b) (k : ¬ ahead b c) : ¬ ahead a c := by
  intro hac
  unfold ahead at *
  rw [not_or, not_and] at h k
  rcases hac with h1 | ⟨h1, h2⟩
  · omega
  · have e1 : a.users.length = b.users.length := by omega
    have e2 : b.users.length = c.users.length := by omega
    have q1 := h.2 e1
    have q2 := k.2 e2
    rw [List.not_lt] at q1 q2
    have : c.key ≤ a.key := List.le_trans q2 q1
    exact absurd h2 (List.not_lt.2 this)
def leC (a b : Cnt) : Bool := decide (¬ cmpC b a < 0)
theorem leC_iff {a b : Cnt} : leC a b = true ↔ ¬ ahead b a := by rw [leC, decide_eq_true_eq, cmpC_lt]
def sortC (l : List Cnt) : List Cnt := l.mergeSort leC
theorem leC_tr : ∀ a b c : Cnt, leC a b = true → leC b c = true → leC a c = true := fun a b c h k => by
  rw [leC_iff] at *; exact notAhead_tr k h
theorem leC_tot : ∀ a b : Cnt, (leC a b || leC b a) = true := fun a b => by
  cases h : leC a b with
  | true => rfl
  | false =>
    have h2 : ¬ leC a b = true := by simp [h]
    rw [leC_iff, Classical.not_not] at h2
    simp only [Bool.false_or]
    rw [leC_iff]
    intro h3
    exact ahead_irr _ (ahead_tr h2 h3)
theorem key_inj {l : List Cnt} (hn : (l.map (·.key)).Nodup) {a b : Cnt} (ha : a ∈ l) (hb : b ∈ l) (h : a.key = b.key) : a = b := by
  obtain ⟨i, hi⟩ := List.mem_iff_getElem?.1 ha
  obtain ⟨j, hj⟩ := List.mem_iff_getElem?.1 hb
  have : i = j := nodup_inj (a := a.key) hn (by rw [List.getElem?_map, hi]; rfl) (by rw [List.getElem?_map, hj, h]; rfl)
  subst this
  rw [hi] at hj; cases hj; rfl
theorem sortC_eq {l m : List Cnt} (hn : (l.map (·.key)).Nodup) (hp : m.Perm l) (hs : m.Pairwise fun a b => leC a b = true) : m = sortC l := by
  refine List.Perm.eq_of_pairwise (le := fun a b => leC a b = true) (fun a b ha hb h1 h2 => ?_) hs (List.pairwise_mergeSort leC_tr leC_tot l) (hp.trans (List.mergeSort_perm l leC).symm)
  rw [leC_iff] at h1 h2
  exact key_inj hn (hp.mem_iff.1 ha) ((List.mergeSort_perm l leC).mem_iff.1 hb) (ahead_tot h2 h1)
theorem sortC_perm (l : List Cnt) : (sortC l).Perm l := List.mergeSort_perm _ _
/-- the reactions to an event -/
def reactL (l : List Kn) (name : List UInt8) : List Cnt := sortC (cntsOf (aboutL l kReact name))
theorem sortC_congr {l m : List Cnt} (hn : (l.map (·.key)).Nodup) (hp : m.Perm l) : sortC m = sortC l :=
  sortC_eq hn ((sortC_perm m).trans hp) (List.pairwise_mergeSort leC_tr leC_tot m)

set_option maxHeartbeats 2000000 in
theorem cmpC_c (a b : Cnt) (H : AHeap) (K : AV → AHeap → Prop) (h : K (.v (.int .i64 (cmpC a b))) H) : ACall X.dr 40 [.agg a.cells, .agg b.cells] H K := by
  refine ACall.drop ?_
  rw [Cnt.cells, Cnt.cells]
  refine ACall_intro Try.func40 rfl (by kernel_rfl) (by rw [Try.ntmps40]; simp) ?_; rw [Try.ntmps40]; simp only [frame0, Nat.reduceAdd]
  refine AWp_seq_k (fun K hK => ?_); apply s_region
  apply s_box; decide; exact (by simp only [go_sem]; try rfl); exact (by simp only [go_sem]; try rfl); intro p2 hp2
  apply s_box; decide; exact (by simp only [go_sem]; try rfl); exact (by simp only [go_sem]; try rfl); intro p3 hp3
  (repeat' (first | (refine AWp_seq_k (fun K hK => ?_)) | (apply s_region) | (apply s_q; (first | decide | (dsimp only; decide)); rfl; (solve | (simp only [go_sem]; try rfl))) | (apply s_nil; try (simp only [AThen, ABlock]; try (first | (refine hK _ _ ?_; clear hK K) | (clear hK K; refine hK _ _ ?_; clear hK K) | (clear hK K; clear hK K; refine hK _ _ ?_; clear hK K)))) | (apply AWp_ret; try (simp only [AThen, ABlock]; apply end_ret; rfl; try simp only [AFr.get, reduceIte, Nat.reduceEqDiff])) | (apply s_box; (first | decide | (dsimp only; decide)); (solve | (simp only [go_sem]; try rfl)); (solve | (simp only [go_sem]; try rfl)); intro b hb) | (apply s_lit; (first | decide | (dsimp only; decide)); exact el_95; (solve | (simp only [go_sem]; try rfl)); (solve | (simp only [go_sem]; try rfl)); decide) | (apply e_q; (first | decide | (dsimp only; decide)); (solve | (simp only [go_sem]; try rfl))) | (apply e_nil) | (apply e_lit; (first | decide | (dsimp only; decide)); exact el_95; (solve | (simp only [go_sem]; try rfl)); (solve | (simp only [go_sem]; try rfl)); decide) | (apply t_q; (first | decide | (dsimp only; decide)); (solve | (simp only [go_sem]; try rfl)); (first | assumption | (intro _; assumption) | (intro _; exact Ext.refl _) | (intro h; exact absurd h (by decide)))) | (apply t_nil; try (simp only [AThen, ABlock]; try (first | (refine hK _ _ ?_; clear hK K) | (clear hK K; refine hK _ _ ?_; clear hK K) | (clear hK K; clear hK K; refine hK _ _ ?_; clear hK K)))) | (apply t_box; (first | decide | (dsimp only; decide)); (solve | (simp only [go_sem]; try rfl)); (solve | (simp only [go_sem]; try rfl)); (first | assumption | (intro _; assumption) | (intro _; exact Ext.refl _) | (intro h; exact absurd h (by decide))); intro b hb he)))
  have e2 := get_fresh (AHeap.get_put_same p2 (.box 50 [.s a.key, .sl false (a.users.map strCells)]) H) hp3 (x := .box 50 [.s b.key, .sl false (b.users.map strCells)])
  have e3 := AHeap.get_put_same p3 (.box 50 [.s b.key, .sl false (b.users.map strCells)]) (H.put p2 (.box 50 [.s a.key, .sl false (a.users.map strCells)]))
  have hE := (Ext.fresh hp2 (o := .box 50 [.s a.key, .sl false (a.users.map strCells)])).put hp3 (ob := .box 50 [.s b.key, .sl false (b.users.map strCells)])
  generalize (H.put p2 (.box 50 [.s a.key, .sl false (a.users.map strCells)])).put p3 (.box 50 [.s b.key, .sl false (b.users.map strCells)]) = M at e2 e3 hE ⊢
  have hla : (a.users.map strCells).length = a.users.length := List.length_map _
  have hlb : (b.users.map strCells).length = b.users.length := List.length_map _
  apply AWp_drawA [0, 1, 2, 3, 4, 5, 6, 7, 8, 9, 10, 11, 12, 13, 14] [] 0 (by exact mixed); kernel_rfl; (simp only [go_sem]; rfl); (simp only [go_sem]; rfl)
  (repeat' (first | (refine AWp_seq_k (fun K hK => ?_)) | (apply s_region) | (apply s_q; (first | decide | (dsimp only; decide)); rfl; (solve | (simp only [go_sem, e2, e3, hla, hlb]; try rfl))) | (apply s_nil; try (simp only [AThen, ABlock]; try (first | (refine hK _ _ ?_; clear hK K) | (clear hK K; refine hK _ _ ?_; clear hK K) | (clear hK K; clear hK K; refine hK _ _ ?_; clear hK K)))) | (apply AWp_ret; try (simp only [AThen, ABlock]; apply end_ret; rfl; try simp only [AFr.get, reduceIte, Nat.reduceEqDiff])) | (apply s_box; (first | decide | (dsimp only; decide)); (solve | (simp only [go_sem, e2, e3, hla, hlb]; try rfl)); (solve | (simp only [go_sem, e2, e3, hla, hlb]; try rfl)); intro b hb) | (apply s_lit; (first | decide | (dsimp only; decide)); exact el_95; (solve | (simp only [go_sem, e2, e3, hla, hlb]; try rfl)); (solve | (simp only [go_sem, e2, e3, hla, hlb]; try rfl)); decide) | (apply e_q; (first | decide | (dsimp only; decide)); (solve | (simp only [go_sem, e2, e3, hla, hlb]; try rfl))) | (apply e_nil) | (apply e_lit; (first | decide | (dsimp only; decide)); exact el_95; (solve | (simp only [go_sem, e2, e3, hla, hlb]; try rfl)); (solve | (simp only [go_sem, e2, e3, hla, hlb]; try rfl)); decide) | (apply t_q; (first | decide | (dsimp only; decide)); (solve | (simp only [go_sem, e2, e3, hla, hlb]; try rfl)); (first | assumption | (intro _; assumption) | (intro _; exact Ext.refl _) | (intro h; exact absurd h (by decide)))) | (apply t_nil; try (simp only [AThen, ABlock]; try (first | (refine hK _ _ ?_; clear hK K) | (clear hK K; refine hK _ _ ?_; clear hK K) | (clear hK K; clear hK K; refine hK _ _ ?_; clear hK K)))) | (apply t_box; (first | decide | (dsimp only; decide)); (solve | (simp only [go_sem, e2, e3, hla, hlb]; try rfl)); (solve | (simp only [go_sem, e2, e3, hla, hlb]; try rfl)); (first | assumption | (intro _; assumption) | (intro _; exact Ext.refl _) | (intro h; exact absurd h (by decide))); intro b hb he) | (apply s_call; (first | decide | (dsimp only; decide)); (solve | (simp only [go_sem, e2, e3, hla, hlb]; try rfl)); (solve | (simp only [go_sem, e2, e3, hla, hlb]; try rfl)); apply comparei_d) | (apply e_call; (first | decide | (dsimp only; decide)); (solve | (simp only [go_sem, e2, e3, hla, hlb]; try rfl)); (solve | (simp only [go_sem, e2, e3, hla, hlb]; try rfl)); (apply comparei_d; exact ⟨rfl, rfl⟩)) | (apply s_call; (first | decide | (dsimp only; decide)); (solve | (simp only [go_sem, e2, e3, hla, hlb]; try rfl)); (solve | (simp only [go_sem, e2, e3, hla, hlb]; try rfl)); apply compares_d) | (apply e_call; (first | decide | (dsimp only; decide)); (solve | (simp only [go_sem, e2, e3, hla, hlb]; try rfl)); (solve | (simp only [go_sem, e2, e3, hla, hlb]; try rfl)); (apply compares_d; exact ⟨rfl, rfl⟩)) | (apply s_call; (first | decide | (dsimp only; decide)); (solve | (simp only [go_sem, e2, e3, hla, hlb]; try rfl)); (solve | (simp only [go_sem, e2, e3, hla, hlb]; try rfl)); apply or2_d) | (apply e_call; (first | decide | (dsimp only; decide)); (solve | (simp only [go_sem, e2, e3, hla, hlb]; try rfl)); (solve | (simp only [go_sem, e2, e3, hla, hlb]; try rfl)); (apply or2_d; exact ⟨rfl, rfl⟩))))
  exact ⟨H, hE, h⟩
end Go.Proofs.Ytmloandpjbimkaa
