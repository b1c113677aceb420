/-
  The contract of Sort.
-/
import Derived.Test.YtloobmklfjhfpaaD
import Derived.Test.YtloobmklfjhfpaaAL3
set_option linter.unusedSimpArgs false
set_option linter.unusedVariables false
set_option maxRecDepth 100000
namespace Go.Proofs.Ytloobmklfjhfpaa
open Go Go.AL
attribute [local irreducible] AOps AWp SOps AE AT ACall AApp

def tick (l : List Child) (out : List Child) : List Child := l.foldl (fun out c => if out.any (fun x => decide (x.id = c.id)) then out else out ++ [c]) out
theorem uniq_take {l : List Child} {i : Nat} {c : Child} (h : l[i]? = some c) : uniq (l.take (i + 1)) = if (uniq (l.take i)).any (fun x => decide (x.id = c.id)) then uniq (l.take i) else uniq (l.take i) ++ [c] := by
  rw [take_succ h, uniq, List.foldl_append]; rfl
def seenE (out : List Child) : List (List UInt8 × AV) := out.map fun c => (c.id, .v (.bool true))
theorem seen_find (k : List UInt8) : ∀ out : List Child, kfind k (seenE out) = if out.any (fun x => decide (x.id = k)) then some (.v (.bool true)) else none
  | [] => rfl
  | c :: out => by
    have := seen_find k out
    simp only [seenE, List.map_cons, kfind, List.any_cons] at this ⊢
    by_cases e : c.id = k
    · simp [e]
    · simp only [e, if_false, decide_false, Bool.false_or]; exact this
theorem seen_put (c : Child) : ∀ out : List Child, out.any (fun x => decide (x.id = c.id)) = false → kput c.id (.v (.bool true)) (seenE out) = seenE (out ++ [c])
  | [], _ => rfl
  | d :: out, h => by
    simp only [List.any_cons, Bool.or_eq_false_iff, decide_eq_false_iff_not] at h
    have := seen_put c out h.2
    simp only [seenE, List.map_cons, List.cons_append, kput] at this ⊢
    rw [if_neg h.1, this]
def mkAgg (vs : List Value) : Value := .agg vs.toArray
theorem mk_agg : ∀ F S (vs : List Value) (bs : List AV), bs.length = 2 → VRs F S vs bs → VR F S (mkAgg vs) (.agg bs) := fun F S vs bs _ h => by
  unfold mkAgg; exact .agg h
def cAt (l : List Child) (i j : Nat) : Int := match l[i]?, l[j]? with | some x, some y => cmpC x y | _, _ => 0
theorem cAt_eq {l : List Child} {i j : Nat} {a b : Child} (h : l[i]? = some a) (k : l[j]? = some b) : cAt l i j = cmpC a b := by simp [cAt, h, k]
theorem getD_cells (l : List Child) (i : Nat) (h : i < l.length) : (l.map Child.cells).getD i [] = (l[i]).cells := by simp [h]

theorem sort_c (hS : SortsAt X.P 15 2 mkAgg) (t : Bool) (l : List Child) (hl : l.length ≤ 1000000) (hc : ∀ c ∈ l, c.ord.length < 4294967281) (H : AHeap) (K : AV → AHeap → Prop) (h : K (.sl false ((srt l).map Child.cells)) H) : ACall X 6 [.sl t (l.map Child.cells)] H K := by
  refine ACall.gr (e := 42) (sz := 2) h ?_
  refine ACall_intro Try.func6 rfl (by kernel_rfl) (by rw [Try.ntmps6]; simp) ?_; rw [Try.ntmps6]; simp only [frame0, Nat.reduceAdd]
  (repeat' (first | (refine AWp_seq_k (fun K hK => ?_)) | (apply s_region) | (apply s_q; (first | decide | (dsimp only; decide)); rfl; (solve | (simp only [go_sem]; try rfl))) | (apply s_nil; try simp only [AThen, ABlock]; try (first | (refine hK _ _ ?_; clear hK K) | (clear hK K; refine hK _ _ ?_; clear hK K) | (clear hK K; clear hK K; refine hK _ _ ?_; clear hK K))) | (apply AWp_block) | (apply AWp_skip; try simp only [AThen, ABlock]; try (first | (refine hK _ _ ?_; clear hK K) | (clear hK K; refine hK _ _ ?_; clear hK K) | (clear hK K; clear hK K; refine hK _ _ ?_; clear hK K))) | (apply AWp_exit; simp only [AThen, ABlock, reduceIte, Nat.reduceEqDiff]; try (first | (refine hK _ _ ?_; clear hK K) | (clear hK K; refine hK _ _ ?_; clear hK K) | (clear hK K; clear hK K; refine hK _ _ ?_; clear hK K))) | (apply AWp_ret; try simp only [AThen, ABlock]; apply end_ret; rfl; try simp only [AFr.get, reduceIte, Nat.reduceEqDiff]) | (apply s_store; (solve | (simp only [go_sem]; try rfl)); (solve | (simp only [go_sem]; try rfl)); (solve | (simp only [go_sem]; try rfl))) | (apply s_mapput; (solve | (simp only [go_sem]; try rfl)); (solve | (simp only [go_sem]; try rfl)); (solve | (simp only [go_sem]; try rfl)); (solve | (simp only [go_sem]; try rfl))) | (apply s_alloc; (first | decide | (dsimp only; decide)); exact zc_42; intro b hb) | (apply s_smap; (first | decide | (dsimp only; decide)); exact mp_43; intro b hb) | (apply s_lit; (first | decide | (dsimp only; decide)); exact el_22; (solve | (simp only [go_sem]; try rfl)); (solve | (simp only [go_sem]; try rfl)); decide)))
  obtain ⟨m, hmb⟩ : ∃ m, m = b := ⟨_, rfl⟩
  have hm := hb
  rw [← hmb] at hm ⊢
  clear hb hmb b
  refine AWp_loop_s (σ := Nat × AV × AHeap) [3, 4, 8, 9, 10] (fun s => [s.2.1, .v (.map (some m)), .sl t (l.map Child.cells), .v (.int .i64 l.length), .v (.int .i64 s.1)]) (fun s => s.2.2) (fun s => l.length - s.1)
    (fun s => s.1 ≤ l.length ∧ Ext H s.2.2 ∧ s.2.2.get m = some (.smap (seenE (uniq (l.take s.1)))) ∧ RowAt 42 2 H s.2.2 ((uniq (l.take s.1)).map Child.cells) s.2.1) (0, .sl true [], H.put m (.smap [])) ⟨Nat.zero_le _, Ext.fresh hm, AHeap.get_put_same _ _ _, RowAt.nil _ _ _ _⟩ rfl rfl (fun s hs => ?_)
  obtain ⟨i, a, L⟩ := s
  obtain ⟨hi, hE, hmL, hR⟩ := hs
  simp only [List.zip_cons_cons, List.zip_nil_right] at hi hE hmL hR ⊢
  (repeat' (first | (refine AWp_seq_k (fun K hK => ?_)) | (apply s_region) | (apply s_q; (first | decide | (dsimp only; decide)); rfl; (solve | (simp only [go_sem]; try rfl))) | (apply s_nil; try simp only [AThen, ABlock]; try (first | (refine hK _ _ ?_; clear hK K) | (clear hK K; refine hK _ _ ?_; clear hK K) | (clear hK K; clear hK K; refine hK _ _ ?_; clear hK K))) | (apply AWp_block) | (apply AWp_skip; try simp only [AThen, ABlock]; try (first | (refine hK _ _ ?_; clear hK K) | (clear hK K; refine hK _ _ ?_; clear hK K) | (clear hK K; clear hK K; refine hK _ _ ?_; clear hK K))) | (apply AWp_exit; simp only [AThen, ABlock, reduceIte, Nat.reduceEqDiff]; try (first | (refine hK _ _ ?_; clear hK K) | (clear hK K; refine hK _ _ ?_; clear hK K) | (clear hK K; clear hK K; refine hK _ _ ?_; clear hK K))) | (apply AWp_ret; try simp only [AThen, ABlock]; apply end_ret; rfl; try simp only [AFr.get, reduceIte, Nat.reduceEqDiff]) | (apply s_store; (solve | (simp only [go_sem]; try rfl)); (solve | (simp only [go_sem]; try rfl)); (solve | (simp only [go_sem]; try rfl))) | (apply s_mapput; (solve | (simp only [go_sem]; try rfl)); (solve | (simp only [go_sem]; try rfl)); (solve | (simp only [go_sem]; try rfl)); (solve | (simp only [go_sem]; try rfl))) | (apply s_alloc; (first | decide | (dsimp only; decide)); exact zc_42; intro b hb) | (apply s_smap; (first | decide | (dsimp only; decide)); exact mp_43; intro b hb) | (apply s_lit; (first | decide | (dsimp only; decide)); exact el_22; (solve | (simp only [go_sem]; try rfl)); (solve | (simp only [go_sem]; try rfl)); decide)))
  refine cond_split (by simp only [go_sem]; try rfl) (fun hd => ?_) (fun hd => ?_)
  · have hlt : i < l.length := by simpa using hd
    obtain ⟨c, hcm⟩ := gete hlt
    have hgc := child_at hcm
    have hul : (uniq (l.take i)).length ≤ 1000000 := by
      have := uniq_len (l.take i)
      simp at this; omega
    (repeat' (first | (refine AWp_seq_k (fun K hK => ?_)) | (apply s_region) | (apply s_q; (first | decide | (dsimp only; decide)); rfl; (solve | (simp only [go_sem, hgc]; try rfl))) | (apply s_nil; try simp only [AThen, ABlock]; try (first | (refine hK _ _ ?_; clear hK K) | (clear hK K; refine hK _ _ ?_; clear hK K) | (clear hK K; clear hK K; refine hK _ _ ?_; clear hK K))) | (apply AWp_block) | (apply AWp_skip; try simp only [AThen, ABlock]; try (first | (refine hK _ _ ?_; clear hK K) | (clear hK K; refine hK _ _ ?_; clear hK K) | (clear hK K; clear hK K; refine hK _ _ ?_; clear hK K))) | (apply AWp_exit; simp only [AThen, ABlock, reduceIte, Nat.reduceEqDiff]; try (first | (refine hK _ _ ?_; clear hK K) | (clear hK K; refine hK _ _ ?_; clear hK K) | (clear hK K; clear hK K; refine hK _ _ ?_; clear hK K))) | (apply AWp_ret; try simp only [AThen, ABlock]; apply end_ret; rfl; try simp only [AFr.get, reduceIte, Nat.reduceEqDiff]) | (apply s_store; (solve | (simp only [go_sem, hgc]; try rfl)); (solve | (simp only [go_sem, hgc]; try rfl)); (solve | (simp only [go_sem, hgc]; try rfl))) | (apply s_mapput; (solve | (simp only [go_sem, hgc]; try rfl)); (solve | (simp only [go_sem, hgc]; try rfl)); (solve | (simp only [go_sem, hgc]; try rfl)); (solve | (simp only [go_sem, hgc]; try rfl))) | (apply s_alloc; (first | decide | (dsimp only; decide)); exact zc_42; intro b hb) | (apply s_smap; (first | decide | (dsimp only; decide)); exact mp_43; intro b hb) | (apply s_lit; (first | decide | (dsimp only; decide)); exact el_22; (solve | (simp only [go_sem, hgc]; try rfl)); (solve | (simp only [go_sem, hgc]; try rfl)); decide)))
    obtain ⟨p, hpb⟩ : ∃ p, p = b := ⟨_, rfl⟩
    have hp := hb
    rw [← hpb] at hp ⊢
    clear hb hpb b
    have hmp := get_fresh hmL hp (x := .box 42 [.s c.id, .s c.ord])
    have hpp := AHeap.get_put_same p (.box 42 [.s c.id, .s c.ord]) L
    have hE2 := hE.put hp (ob := .box 42 [.s c.id, .s c.ord])
    have hR2 := hR.ext (Ext.fresh hp (o := .box 42 [.s c.id, .s c.ord]))
    have hne : p ≠ m := by rintro rfl; rw [hmL] at hp; cases hp
    generalize hM : L.put p (.box 42 [.s c.id, .s c.ord]) = M at hmp hpp hE2 hR2
    by_cases hs : (uniq (l.take i)).any (fun x => decide (x.id = c.id)) = true
    · have hk : kfind c.id (seenE (uniq (l.take i))) = some (.v (.bool true)) := by rw [seen_find, if_pos hs]
      have hu : uniq (l.take (i + 1)) = uniq (l.take i) := by rw [uniq_take hcm, if_pos hs]
      (repeat' (first | (refine AWp_seq_k (fun K hK => ?_)) | (apply s_region) | (apply s_q; (first | decide | (dsimp only; decide)); rfl; (solve | (simp only [go_sem, hpp, hmp, hk]; try rfl))) | (apply s_nil; try simp only [AThen, ABlock]; try (first | (refine hK _ _ ?_; clear hK K) | (clear hK K; refine hK _ _ ?_; clear hK K) | (clear hK K; clear hK K; refine hK _ _ ?_; clear hK K))) | (apply AWp_block) | (apply AWp_skip; try simp only [AThen, ABlock]; try (first | (refine hK _ _ ?_; clear hK K) | (clear hK K; refine hK _ _ ?_; clear hK K) | (clear hK K; clear hK K; refine hK _ _ ?_; clear hK K))) | (apply AWp_exit; simp only [AThen, ABlock, reduceIte, Nat.reduceEqDiff]; try (first | (refine hK _ _ ?_; clear hK K) | (clear hK K; refine hK _ _ ?_; clear hK K) | (clear hK K; clear hK K; refine hK _ _ ?_; clear hK K))) | (apply AWp_ret; try simp only [AThen, ABlock]; apply end_ret; rfl; try simp only [AFr.get, reduceIte, Nat.reduceEqDiff]) | (apply s_store; (solve | (simp only [go_sem, hpp, hmp, hk]; try rfl)); (solve | (simp only [go_sem, hpp, hmp, hk]; try rfl)); (solve | (simp only [go_sem, hpp, hmp, hk]; try rfl))) | (apply s_mapput; (solve | (simp only [go_sem, hpp, hmp, hk]; try rfl)); (solve | (simp only [go_sem, hpp, hmp, hk]; try rfl)); (solve | (simp only [go_sem, hpp, hmp, hk]; try rfl)); (solve | (simp only [go_sem, hpp, hmp, hk]; try rfl))) | (apply s_alloc; (first | decide | (dsimp only; decide)); exact zc_42; intro b hb) | (apply s_smap; (first | decide | (dsimp only; decide)); exact mp_43; intro b hb) | (apply s_lit; (first | decide | (dsimp only; decide)); exact el_22; (solve | (simp only [go_sem, hpp, hmp, hk]; try rfl)); (solve | (simp only [go_sem, hpp, hmp, hk]; try rfl)); decide)))
      refine cond_split (by simp only [go_sem]; try rfl) (fun he => ?_) (fun he => ?_)
      · cases he
      (repeat' (first | (refine AWp_seq_k (fun K hK => ?_)) | (apply s_region) | (apply s_q; (first | decide | (dsimp only; decide)); rfl; (solve | (simp only [go_sem]; try rfl))) | (apply s_nil; try simp only [AThen, ABlock]; try (first | (refine hK _ _ ?_; clear hK K) | (clear hK K; refine hK _ _ ?_; clear hK K) | (clear hK K; clear hK K; refine hK _ _ ?_; clear hK K))) | (apply AWp_block) | (apply AWp_skip; try simp only [AThen, ABlock]; try (first | (refine hK _ _ ?_; clear hK K) | (clear hK K; refine hK _ _ ?_; clear hK K) | (clear hK K; clear hK K; refine hK _ _ ?_; clear hK K))) | (apply AWp_exit; simp only [AThen, ABlock, reduceIte, Nat.reduceEqDiff]; try (first | (refine hK _ _ ?_; clear hK K) | (clear hK K; refine hK _ _ ?_; clear hK K) | (clear hK K; clear hK K; refine hK _ _ ?_; clear hK K))) | (apply AWp_ret; try simp only [AThen, ABlock]; apply end_ret; rfl; try simp only [AFr.get, reduceIte, Nat.reduceEqDiff]) | (apply s_store; (solve | (simp only [go_sem]; try rfl)); (solve | (simp only [go_sem]; try rfl)); (solve | (simp only [go_sem]; try rfl))) | (apply s_mapput; (solve | (simp only [go_sem]; try rfl)); (solve | (simp only [go_sem]; try rfl)); (solve | (simp only [go_sem]; try rfl)); (solve | (simp only [go_sem]; try rfl))) | (apply s_alloc; (first | decide | (dsimp only; decide)); exact zc_42; intro b hb) | (apply s_smap; (first | decide | (dsimp only; decide)); exact mp_43; intro b hb) | (apply s_lit; (first | decide | (dsimp only; decide)); exact el_22; (solve | (simp only [go_sem]; try rfl)); (solve | (simp only [go_sem]; try rfl)); decide)))
      refine ⟨(i + 1, a, M), by simp only; omega, ⟨by simp only; omega, hE2, by simp only; rw [hu]; exact hmp, by simp only; rw [hu]; exact hR2⟩, ?_, rfl⟩
      simp only [getAll, List.map_cons, List.map_nil, AFr.get, reduceIte, Nat.reduceEqDiff]
      rw [wrapS hlt (by omega)]; try rfl
    · have hs : (uniq (l.take i)).any (fun x => decide (x.id = c.id)) = false := by simpa using hs
      have hk : kfind c.id (seenE (uniq (l.take i))) = none := by rw [seen_find, hs]; rfl
      have hu : uniq (l.take (i + 1)) = uniq (l.take i) ++ [c] := by rw [uniq_take hcm, hs]; rfl
      have hkp := seen_put c _ hs
      have hpp3 : (M.put m (.smap (seenE (uniq (l.take i) ++ [c])))).get p = some (.box 42 [.s c.id, .s c.ord]) := by rw [AHeap.get_put, if_neg hne]; exact hpp
      have hmp3 := AHeap.get_put_same m (.smap (seenE (uniq (l.take i) ++ [c]))) M
      have hE3 := hE2.over (o := .smap (seenE (uniq (l.take i) ++ [c]))) hm
      have hR3 := hR2.put hmp (fun _ _ _ h => by cases h) (o' := .smap (seenE (uniq (l.take i) ++ [c])))
      (repeat' (first | (refine AWp_seq_k (fun K hK => ?_)) | (apply s_region) | (apply s_q; (first | decide | (dsimp only; decide)); rfl; (solve | (simp only [go_sem, hpp, hmp, hk]; try rfl))) | (apply s_nil; try simp only [AThen, ABlock]; try (first | (refine hK _ _ ?_; clear hK K) | (clear hK K; refine hK _ _ ?_; clear hK K) | (clear hK K; clear hK K; refine hK _ _ ?_; clear hK K))) | (apply AWp_block) | (apply AWp_skip; try simp only [AThen, ABlock]; try (first | (refine hK _ _ ?_; clear hK K) | (clear hK K; refine hK _ _ ?_; clear hK K) | (clear hK K; clear hK K; refine hK _ _ ?_; clear hK K))) | (apply AWp_exit; simp only [AThen, ABlock, reduceIte, Nat.reduceEqDiff]; try (first | (refine hK _ _ ?_; clear hK K) | (clear hK K; refine hK _ _ ?_; clear hK K) | (clear hK K; clear hK K; refine hK _ _ ?_; clear hK K))) | (apply AWp_ret; try simp only [AThen, ABlock]; apply end_ret; rfl; try simp only [AFr.get, reduceIte, Nat.reduceEqDiff]) | (apply s_store; (solve | (simp only [go_sem, hpp, hmp, hk]; try rfl)); (solve | (simp only [go_sem, hpp, hmp, hk]; try rfl)); (solve | (simp only [go_sem, hpp, hmp, hk]; try rfl))) | (apply s_mapput; (solve | (simp only [go_sem, hpp, hmp, hk]; try rfl)); (solve | (simp only [go_sem, hpp, hmp, hk]; try rfl)); (solve | (simp only [go_sem, hpp, hmp, hk]; try rfl)); (solve | (simp only [go_sem, hpp, hmp, hk]; try rfl))) | (apply s_alloc; (first | decide | (dsimp only; decide)); exact zc_42; intro b hb) | (apply s_smap; (first | decide | (dsimp only; decide)); exact mp_43; intro b hb) | (apply s_lit; (first | decide | (dsimp only; decide)); exact el_22; (solve | (simp only [go_sem, hpp, hmp, hk]; try rfl)); (solve | (simp only [go_sem, hpp, hmp, hk]; try rfl)); decide)))
      refine cond_split (by simp only [go_sem]; try rfl) (fun he => ?_) (fun he => ?_)
      rotate_left
      · cases he
      (repeat' (first | (refine AWp_seq_k (fun K hK => ?_)) | (apply s_region) | (apply s_q; (first | decide | (dsimp only; decide)); rfl; (solve | (simp only [go_sem, hpp, hmp, hkp, hpp3]; try rfl))) | (apply s_nil; try simp only [AThen, ABlock]; try (first | (refine hK _ _ ?_; clear hK K) | (clear hK K; refine hK _ _ ?_; clear hK K) | (clear hK K; clear hK K; refine hK _ _ ?_; clear hK K))) | (apply AWp_block) | (apply AWp_skip; try simp only [AThen, ABlock]; try (first | (refine hK _ _ ?_; clear hK K) | (clear hK K; refine hK _ _ ?_; clear hK K) | (clear hK K; clear hK K; refine hK _ _ ?_; clear hK K))) | (apply AWp_exit; simp only [AThen, ABlock, reduceIte, Nat.reduceEqDiff]; try (first | (refine hK _ _ ?_; clear hK K) | (clear hK K; refine hK _ _ ?_; clear hK K) | (clear hK K; clear hK K; refine hK _ _ ?_; clear hK K))) | (apply AWp_ret; try simp only [AThen, ABlock]; apply end_ret; rfl; try simp only [AFr.get, reduceIte, Nat.reduceEqDiff]) | (apply s_store; (solve | (simp only [go_sem, hpp, hmp, hkp, hpp3]; try rfl)); (solve | (simp only [go_sem, hpp, hmp, hkp, hpp3]; try rfl)); (solve | (simp only [go_sem, hpp, hmp, hkp, hpp3]; try rfl))) | (apply s_mapput; (solve | (simp only [go_sem, hpp, hmp, hkp, hpp3]; try rfl)); (solve | (simp only [go_sem, hpp, hmp, hkp, hpp3]; try rfl)); (solve | (simp only [go_sem, hpp, hmp, hkp, hpp3]; try rfl)); (solve | (simp only [go_sem, hpp, hmp, hkp, hpp3]; try rfl))) | (apply s_alloc; (first | decide | (dsimp only; decide)); exact zc_42; intro b hb) | (apply s_smap; (first | decide | (dsimp only; decide)); exact mp_43; intro b hb) | (apply s_lit; (first | decide | (dsimp only; decide)); exact el_22; (solve | (simp only [go_sem, hpp, hmp, hkp, hpp3]; try rfl)); (solve | (simp only [go_sem, hpp, hmp, hkp, hpp3]; try rfl)); decide) | (apply s_append; (first | decide | (dsimp only; decide)); (solve | (simp only [go_sem, hpp, hmp, hkp, hpp3]; try rfl)); (solve | (simp only [go_sem, hpp, hmp, hkp, hpp3]; try rfl)); apply AApp_at el_22 hE3 hR3 (l := uniq (l.take i)) (m := [c]) (g := Child.cells) rfl rfl tk_22 child_one (by simp; omega) (by simp; omega); intro a2 L2 hR4 hE4 hK4)))
      refine ⟨(i + 1, a2, L2), by simp only; omega, ⟨by simp only; omega, hE4, by simp only; rw [hu]; exact hK4 m _ hmp3 (fun _ _ _ h => by cases h), by simp only; rw [hu]; exact hR4⟩, ?_, rfl⟩
      simp only [getAll, List.map_cons, List.map_nil, AFr.get, reduceIte, Nat.reduceEqDiff]
      rw [wrapS hlt (by omega)]; try rfl
  · have hge : l.length ≤ i := by simpa using hd
    rw [List.take_of_length_le hge] at hmL hR
    have hul : (uniq l).length ≤ 1000000 := Nat.le_trans (uniq_len l) hl
    have hcu : ∀ c ∈ uniq l, c.ord.length < 4294967281 := fun c h => hc c (uniq_mem h)
    (repeat' (first | (refine AWp_seq_k (fun K hK => ?_)) | (apply s_region) | (apply s_q; (first | decide | (dsimp only; decide)); rfl; (solve | (simp only [go_sem]; try rfl))) | (apply s_nil; try simp only [AThen, ABlock]; try (first | (refine hK _ _ ?_; clear hK K) | (clear hK K; refine hK _ _ ?_; clear hK K) | (clear hK K; clear hK K; refine hK _ _ ?_; clear hK K))) | (apply AWp_block) | (apply AWp_skip; try simp only [AThen, ABlock]; try (first | (refine hK _ _ ?_; clear hK K) | (clear hK K; refine hK _ _ ?_; clear hK K) | (clear hK K; clear hK K; refine hK _ _ ?_; clear hK K))) | (apply AWp_exit; simp only [AThen, ABlock, reduceIte, Nat.reduceEqDiff]; try (first | (refine hK _ _ ?_; clear hK K) | (clear hK K; refine hK _ _ ?_; clear hK K) | (clear hK K; clear hK K; refine hK _ _ ?_; clear hK K))) | (apply AWp_ret; try simp only [AThen, ABlock]; apply end_ret; rfl; try simp only [AFr.get, reduceIte, Nat.reduceEqDiff]) | (apply s_store; (solve | (simp only [go_sem]; try rfl)); (solve | (simp only [go_sem]; try rfl)); (solve | (simp only [go_sem]; try rfl))) | (apply s_mapput; (solve | (simp only [go_sem]; try rfl)); (solve | (simp only [go_sem]; try rfl)); (solve | (simp only [go_sem]; try rfl)); (solve | (simp only [go_sem]; try rfl))) | (apply s_alloc; (first | decide | (dsimp only; decide)); exact zc_42; intro b hb) | (apply s_smap; (first | decide | (dsimp only; decide)); exact mp_43; intro b hb) | (apply s_lit; (first | decide | (dsimp only; decide)); exact el_22; (solve | (simp only [go_sem]; try rfl)); (solve | (simp only [go_sem]; try rfl)); decide) | (apply s_call; (first | decide | (dsimp only; decide)); (solve | (simp only [go_sem]; try rfl)); (solve | (simp only [go_sem]; try rfl)); apply ACall_sortAt (c := cAt (uniq l)) hS (by kernel_rfl) (by kernel_rfl) mk_agg hE hR (by simp; omega) (fun x hx => by obtain ⟨c, _, rfl⟩ := List.mem_map.1 hx; rfl))))
    · refine ⟨fun i hi => ?_, fun i j k hi hj hk h1 h2 => ?_, fun i j k hi hj hk h1 h2 => ?_⟩
      · rw [List.length_map] at hi
        rw [cAt_eq (List.getElem?_eq_getElem hi) (List.getElem?_eq_getElem hi), cmpC_key]; exact List.lt_irrefl _
      · rw [List.length_map] at hi hj hk
        rw [cAt_eq (List.getElem?_eq_getElem hi) (List.getElem?_eq_getElem hj), cmpC_key] at h1
        rw [cAt_eq (List.getElem?_eq_getElem hj) (List.getElem?_eq_getElem hk), cmpC_key] at h2
        rw [cAt_eq (List.getElem?_eq_getElem hi) (List.getElem?_eq_getElem hk), cmpC_key]
        exact List.lt_trans h1 h2
      · rw [List.length_map] at hi hj hk
        rw [cAt_eq (List.getElem?_eq_getElem hi) (List.getElem?_eq_getElem hj), cmpC_key] at h1
        rw [cAt_eq (List.getElem?_eq_getElem hj) (List.getElem?_eq_getElem hk), cmpC_key] at h2
        rw [cAt_eq (List.getElem?_eq_getElem hi) (List.getElem?_eq_getElem hk), cmpC_key]
        rw [List.not_lt] at h1 h2 ⊢
        exact List.le_trans h2 h1
    · intro i j x y hx hy Kc hKc
      rw [List.getElem?_map, Option.map_eq_some_iff] at hx hy
      obtain ⟨a1, ha1, rfl⟩ := hx
      obtain ⟨a2, ha2, rfl⟩ := hy
      rw [cAt_eq ha1 ha2] at hKc
      exact cmp_c a1 a2 (hcu _ (List.mem_of_getElem? ha1)) (hcu _ (List.mem_of_getElem? ha2)) _ _ hKc
    · intro p L2 hp hsd hR2 hE2 hK2
      rw [List.length_map] at hp
      have hpl : ∀ i ∈ p, i < (uniq l).length := fun i hi => by simpa using hp.mem_iff.1 hi
      have e1 : (p.map fun i => ((uniq l).map Child.cells).getD i []) = (p.map fun i => (uniq l).getD i ⟨[], []⟩).map Child.cells := by
        rw [List.map_map]
        apply List.map_congr_left
        intro i hi
        have := hpl i hi
        simp [this]
      have e2 : (p.map fun i => (uniq l).getD i ⟨[], []⟩) = srt l := by
        refine srt_eq ?_ ?_
        · have h1 := hp.map (fun i => (uniq l).getD i ⟨[], []⟩)
          have h2 : (List.range (uniq l).length).map (fun i => (uniq l).getD i ⟨[], []⟩) = uniq l := by
            apply List.ext_getElem?
            intro i
            by_cases hi : i < (uniq l).length
            · simp [hi]
            · simp [hi]
          rwa [h2] at h1
        · rw [List.pairwise_map, List.pairwise_iff_getElem]
          intro i j hi hj hij
          have h1 := hsd i j _ _ hij (List.getElem?_eq_getElem hi) (List.getElem?_eq_getElem hj)
          have hi2 := hpl _ (List.getElem_mem hi)
          have hj2 := hpl _ (List.getElem_mem hj)
          rw [cAt_eq (List.getElem?_eq_getElem hj2) (List.getElem?_eq_getElem hi2), cmpC_key] at h1
          rw [leC_iff]
          simpa [hi2, hj2] using h1
      rw [e1, e2] at hR2
      (repeat' (first | (refine AWp_seq_k (fun K hK => ?_)) | (apply s_region) | (apply s_q; (first | decide | (dsimp only; decide)); rfl; (solve | (simp only [go_sem]; try rfl))) | (apply s_nil; try simp only [AThen, ABlock]; try (first | (refine hK _ _ ?_; clear hK K) | (clear hK K; refine hK _ _ ?_; clear hK K) | (clear hK K; clear hK K; refine hK _ _ ?_; clear hK K))) | (apply AWp_block) | (apply AWp_skip; try simp only [AThen, ABlock]; try (first | (refine hK _ _ ?_; clear hK K) | (clear hK K; refine hK _ _ ?_; clear hK K) | (clear hK K; clear hK K; refine hK _ _ ?_; clear hK K))) | (apply AWp_exit; simp only [AThen, ABlock, reduceIte, Nat.reduceEqDiff]; try (first | (refine hK _ _ ?_; clear hK K) | (clear hK K; refine hK _ _ ?_; clear hK K) | (clear hK K; clear hK K; refine hK _ _ ?_; clear hK K))) | (apply AWp_ret; try simp only [AThen, ABlock]; apply end_ret; rfl; try simp only [AFr.get, reduceIte, Nat.reduceEqDiff]) | (apply s_store; (solve | (simp only [go_sem]; try rfl)); (solve | (simp only [go_sem]; try rfl)); (solve | (simp only [go_sem]; try rfl))) | (apply s_mapput; (solve | (simp only [go_sem]; try rfl)); (solve | (simp only [go_sem]; try rfl)); (solve | (simp only [go_sem]; try rfl)); (solve | (simp only [go_sem]; try rfl))) | (apply s_alloc; (first | decide | (dsimp only; decide)); exact zc_42; intro b hb) | (apply s_smap; (first | decide | (dsimp only; decide)); exact mp_43; intro b hb) | (apply s_lit; (first | decide | (dsimp only; decide)); exact el_22; (solve | (simp only [go_sem]; try rfl)); (solve | (simp only [go_sem]; try rfl)); decide)))
      exact hR2.toGr hE2
end Go.Proofs.Ytloobmklfjhfpaa
