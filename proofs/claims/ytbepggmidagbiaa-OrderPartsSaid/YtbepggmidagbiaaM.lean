/-
  The contract of counts.
-/
import Derived.Test.YtbepggmidagbiaaH
import Derived.Test.YtbepggmidagbiaaB
import Derived.Test.YtbepggmidagbiaaAL4
set_option linter.unusedSimpArgs false
set_option linter.unusedVariables false
set_option maxRecDepth 100000
namespace Go.Proofs.Ytbepggmidagbiaa
open Go Go.AL
attribute [local irreducible] AOps AWp SOps AE AT ACall AApp

theorem compacts59 : Compacts X.P 59 (Value.int .i64) Lib.compact (fun zs => List.replicate (zs.length - (Lib.compact zs).length) 0) :=
  ⟨fun p cap w => Any.slices_Compact_int_empty Try.laysNm220 p cap w, fun blk cap ss w hH hsz hcap => Any.slices_Compact_int Try.laysNm220 blk 0 cap ss w hH hsz hcap⟩
theorem comp_upto {l : List Int} (hl : l.Pairwise (· ≤ ·)) : ∀ m, m ≤ l.length → (∀ x, x ∈ Lib.compactUpTo l.toArray m ↔ x ∈ l.take m) ∧ (Lib.compactUpTo l.toArray m).Pairwise (· < ·)
  | 0, _ => ⟨fun x => by simp [Lib.compactUpTo], by simp [Lib.compactUpTo]⟩
  | m + 1, hm => by
    obtain ⟨h1, h2⟩ := comp_upto hl m (by omega)
    have hx : l[m]? = some l[m] := List.getElem?_eq_getElem (by omega)
    have ex : l.toArray[m]! = l[m] := by rw [getElem!_pos _ _ (by simp; omega)]; simp
    rw [Lib.compactUpTo_succ, take_succ hx, ex]
    by_cases hk : Lib.keeps l.toArray m = true
    · rw [if_pos hk]
      refine ⟨fun x => by rw [List.mem_append, List.mem_append, h1], ?_⟩
      rw [List.pairwise_append]
      refine ⟨h2, List.pairwise_singleton _ _, fun a ha b hb => ?_⟩
      rw [List.mem_singleton] at hb
      subst hb
      have ha' := (h1 a).1 ha
      obtain ⟨j, hj, rfl⟩ := List.mem_take_iff_getElem.1 ha'
      have hjm : j < m := by omega
      have hle := List.pairwise_iff_getElem.1 hl j m (by omega) (by omega) hjm
      simp only [Lib.keeps, decide_eq_true_eq] at hk
      rcases hk with hk | hk
      · omega
      · have e2 : l.toArray[m - 1]! = l[m - 1] := by rw [getElem!_pos _ _ (by simp; omega)]; simp
        rw [ex, e2] at hk
        have h3 : l[j] ≤ l[m - 1] := by
          by_cases e : j = m - 1
          · subst e; exact Int.le_refl _
          · exact List.pairwise_iff_getElem.1 hl j (m - 1) (by omega) (by omega) (by omega)
        have h4 := List.pairwise_iff_getElem.1 hl (m - 1) m (by omega) (by omega) (by omega)
        omega
    · rw [if_neg hk, List.append_nil]
      refine ⟨fun x => ?_, h2⟩
      rw [h1, List.mem_append, List.mem_singleton]
      refine ⟨.inl, fun h => ?_⟩
      rcases h with h | rfl
      · exact h
      · have hk2 : ¬ (m = 0 ∨ l.toArray[m]! ≠ l.toArray[m - 1]!) := fun h => hk (by simp only [Lib.keeps, decide_eq_true_eq]; exact h)
        have hm0 : m ≠ 0 := fun h => hk2 (.inl h)
        have he : l.toArray[m]! = l.toArray[m - 1]! := Decidable.byContradiction fun h => hk2 (.inr h)
        have e2 : l.toArray[m - 1]! = l[m - 1] := by rw [getElem!_pos _ _ (by simp; omega)]; simp
        rw [ex, e2] at he
        rw [he, List.mem_take_iff_getElem]
        exact ⟨m - 1, by omega, rfl⟩
theorem sortZ_sorted (l : List Int) : (sortZ l).Pairwise (· ≤ ·) := by
  have := List.pairwise_mergeSort (le := fun x y : Int => decide (x ≤ y)) (fun a b c h k => by simp only [decide_eq_true_eq] at *; omega) (fun a b => by simp only [Bool.or_eq_true, decide_eq_true_eq]; omega) l
  exact this.imp (fun h => by simpa using h)
theorem sortZ_perm (l : List Int) : (sortZ l).Perm l := List.mergeSort_perm _ _
def onceZ (l : List Int) : List Int := Lib.compact (sortZ l)
theorem onceZ_mem (l : List Int) (x : Int) : x ∈ onceZ l ↔ x ∈ l := by
  have := (comp_upto (sortZ_sorted l) (sortZ l).length (Nat.le_refl _)).1 x
  rw [List.take_length] at this
  exact this.trans (sortZ_perm l).mem_iff
theorem onceZ_lt (l : List Int) : (onceZ l).Pairwise (· < ·) := (comp_upto (sortZ_sorted l) (sortZ l).length (Nat.le_refl _)).2
theorem onceZ_len (l : List Int) : (onceZ l).length ≤ l.length := by
  have := Lib.compact_length_le (sortZ l)
  rw [sortZ_len] at this
  exact this

/-- a map's entries: how often each is counted -/
def mk (ks : List Int) (c : Int → Nat) : List (Int × AV) := ks.map fun x => (x, .v (.int .i64 (c x : Nat)))
theorem mk_find (c : Int → Nat) (x : Int) : ∀ ks : List Int, kfind x (mk ks c) = if x ∈ ks then some (.v (.int .i64 (c x : Nat))) else none
  | [] => rfl
  | k :: ks => by
    have ih := mk_find c x ks
    simp only [mk, List.map_cons, kfind] at ih ⊢
    by_cases e : k = x
    · subst e; simp
    · rw [if_neg e, ih]; simp [Ne.symm e]
theorem mk_new {c c' : Int → Nat} {x : Int} : ∀ {ks : List Int}, x ∉ ks → (∀ y, y ≠ x → c' y = c y) → kput x (.v (.int .i64 (c' x : Nat))) (mk ks c) = mk (ks ++ [x]) c'
  | [], _, _ => rfl
  | k :: ks, h, hc => by
    have hk : k ≠ x := by rintro rfl; simp at h
    have ih := mk_new (ks := ks) (fun hm => h (by simp [hm])) hc
    simp only [mk, List.map_cons, List.cons_append, kput] at ih ⊢
    rw [if_neg hk, ih, hc k hk]
theorem mk_old {c c' : Int → Nat} {x : Int} : ∀ {ks : List Int}, ks.Nodup → x ∈ ks → (∀ y, y ≠ x → c' y = c y) → kput x (.v (.int .i64 (c' x : Nat))) (mk ks c) = mk ks c'
  | [], _, h, _ => by cases h
  | k :: ks, hn, h, hc => by
    rw [List.nodup_cons] at hn
    by_cases e : k = x
    · subst e
      simp only [mk, List.map_cons, kput, if_true]
      congr 1
      refine List.map_congr_left fun y hy => ?_
      rw [hc y (by rintro rfl; exact hn.1 hy)]
    · have ih := mk_old hn.2 (by rcases List.mem_cons.1 h with h | h; exact absurd h.symm e; exact h) hc
      simp only [mk, List.map_cons, kput] at ih ⊢
      rw [if_neg e, ih, hc k e]
theorem mk_put {c : Int → Nat} {x : Int} {ks : List Int} (hn : ks.Nodup) : kput x (.v (.int .i64 ((c x + 1 : Nat) : Int))) (mk ks c) = mk (if x ∈ ks then ks else ks ++ [x]) (fun y => if y = x then c x + 1 else c y) := by
  have e1 : (if x = x then c x + 1 else c x) = c x + 1 := if_pos rfl
  by_cases h : x ∈ ks
  · rw [if_pos h]
    have := mk_old (c := c) (c' := fun y => if y = x then c x + 1 else c y) hn h (fun y hy => if_neg hy)
    simp only [if_true] at this
    exact this
  · rw [if_neg h]
    have := mk_new (c := c) (c' := fun y => if y = x then c x + 1 else c y) h (fun y hy => if_neg hy)
    simp only [if_true] at this
    exact this
/-- in how many rows a number stands -/
def rowsOf (rows : List (List Int)) (x : Int) : Nat := (rows.filter fun r => decide (x ∈ r)).length
theorem rowsOf_le (rows : List (List Int)) (x : Int) : rowsOf rows x ≤ rows.length := List.length_filter_le _ _
theorem rowsOf_zero {rows : List (List Int)} {x : Int} (h : x ∉ rows.flatten) : rowsOf rows x = 0 := by
  rw [rowsOf, List.length_eq_zero_iff, List.filter_eq_nil_iff]
  intro r hr hx
  exact h (List.mem_flatten.2 ⟨r, hr, by simpa using hx⟩)
theorem rowsOf_next {rows : List (List Int)} {i : Nat} {r : List Int} (hr : rows[i]? = some r) (x : Int) : rowsOf (rows.take (i + 1)) x = rowsOf (rows.take i) x + if x ∈ r then 1 else 0 := by
  rw [rowsOf, rowsOf, take_succ hr, List.filter_append, List.length_append, List.filter_cons]
  by_cases h : x ∈ r <;> simp [h]
set_option maxHeartbeats 1000000 in
theorem counts_c (t : Bool) (rows : List (List Int)) (hl : rows.length ≤ 1000) (hk : ∀ r ∈ rows, r.length ≤ 1000) (H : AHeap) (Kc : AV → AHeap → Prop)
    (h : ∀ m L ks, Ext H L → H.get m = none → L.get m = some (.imap .i64 (mk ks (rowsOf rows))) → ks.Nodup → (∀ x, x ∈ ks ↔ x ∈ rows.flatten) → Kc (.v (.map (some m))) L) : ACall X 43 [.sl t (rows.map rowCells)] H Kc := by
  refine ACall_intro Try.func43 rfl (by kernel_rfl) (by rw [Try.ntmps43]; simp) ?_; rw [Try.ntmps43]; simp only [frame0, Nat.reduceAdd]
  (repeat' (first | (refine AWp_seq_k (fun K hK => ?_)) | (apply s_region) | (apply s_q; (first | decide | (dsimp only; decide)); rfl; (solve | (simp only [go_sem]; try rfl))) | (apply s_nil; try simp only [AThen, ABlock]; try (first | (refine hK _ _ ?_; clear hK K) | (clear hK K; refine hK _ _ ?_; clear hK K) | (clear hK K; clear hK K; refine hK _ _ ?_; clear hK K))) | (apply AWp_block) | (apply AWp_skip; try simp only [AThen, ABlock]; try (first | (refine hK _ _ ?_; clear hK K) | (clear hK K; refine hK _ _ ?_; clear hK K) | (clear hK K; clear hK K; refine hK _ _ ?_; clear hK K))) | (apply AWp_exit; simp only [AThen, ABlock, reduceIte, Nat.reduceEqDiff]; try (first | (refine hK _ _ ?_; clear hK K) | (clear hK K; refine hK _ _ ?_; clear hK K) | (clear hK K; clear hK K; refine hK _ _ ?_; clear hK K))) | (apply AWp_ret; try simp only [AThen, ABlock]; apply end_ret; rfl; try simp only [AFr.get, reduceIte, Nat.reduceEqDiff]) | (apply s_mapput; (solve | (simp only [go_sem]; try rfl)); (solve | (simp only [go_sem]; try rfl)); (solve | (simp only [go_sem]; try rfl)); (solve | (simp only [go_sem]; try rfl))) | (apply s_smap; (first | decide | (dsimp only; decide)); exact mp_53; intro b hb) | (apply s_imap; (first | decide | (dsimp only; decide)); exact mp_53; intro b hb)))
  obtain ⟨m, hmb⟩ : ∃ m, m = b := ⟨_, rfl⟩
  have hm := hb
  rw [← hmb] at hm ⊢
  clear hb hmb b
  refine AWp_loop_s (σ := Nat × List Int × AHeap) [3, 10, 11, 12] (fun s => [.v (.map (some m)), .sl t (rows.map rowCells), .v (.int .i64 (rows.length : Nat)), .v (.int .i64 s.1)]) (fun s => s.2.2) (fun s => rows.length - s.1)
    (fun s => s.1 ≤ rows.length ∧ Ext H s.2.2 ∧ s.2.2.get m = some (.imap .i64 (mk s.2.1 (rowsOf (rows.take s.1)))) ∧ s.2.1.Nodup ∧ ∀ x, x ∈ s.2.1 ↔ x ∈ (rows.take s.1).flatten) (0, [], H.put m (.imap .i64 [])) ⟨Nat.zero_le _, Ext.fresh hm, AHeap.get_put_same _ _ _, .nil, fun x => by simp⟩ rfl rfl (fun s hs => ?_)
  obtain ⟨i, ks, L⟩ := s
  obtain ⟨hi, hE, hmL, hn, hks⟩ := hs
  simp only [List.zip_cons_cons, List.zip_nil_right] at hi hE hmL hn hks ⊢
  (repeat' (first | (refine AWp_seq_k (fun K hK => ?_)) | (apply s_region) | (apply s_q; (first | decide | (dsimp only; decide)); rfl; (solve | (simp only [go_sem]; try rfl))) | (apply s_nil; try simp only [AThen, ABlock]; try (first | (refine hK _ _ ?_; clear hK K) | (clear hK K; refine hK _ _ ?_; clear hK K) | (clear hK K; clear hK K; refine hK _ _ ?_; clear hK K))) | (apply AWp_block) | (apply AWp_skip; try simp only [AThen, ABlock]; try (first | (refine hK _ _ ?_; clear hK K) | (clear hK K; refine hK _ _ ?_; clear hK K) | (clear hK K; clear hK K; refine hK _ _ ?_; clear hK K))) | (apply AWp_exit; simp only [AThen, ABlock, reduceIte, Nat.reduceEqDiff]; try (first | (refine hK _ _ ?_; clear hK K) | (clear hK K; refine hK _ _ ?_; clear hK K) | (clear hK K; clear hK K; refine hK _ _ ?_; clear hK K))) | (apply AWp_ret; try simp only [AThen, ABlock]; apply end_ret; rfl; try simp only [AFr.get, reduceIte, Nat.reduceEqDiff]) | (apply s_mapput; (solve | (simp only [go_sem]; try rfl)); (solve | (simp only [go_sem]; try rfl)); (solve | (simp only [go_sem]; try rfl)); (solve | (simp only [go_sem]; try rfl))) | (apply s_smap; (first | decide | (dsimp only; decide)); exact mp_53; intro b hb) | (apply s_imap; (first | decide | (dsimp only; decide)); exact mp_53; intro b hb)))
  refine cond_split (by simp only [go_sem]; try rfl) (fun hd => ?_) (fun hd => ?_)
  · have hil : i < rows.length := by simpa using hd
    obtain ⟨r, hr⟩ := gete hil
    have hgr := row_at hr
    have hrl := hk r (List.mem_of_getElem? hr)
    (repeat' (first | (refine AWp_seq_k (fun K hK => ?_)) | (apply s_region) | (apply s_q; (first | decide | (dsimp only; decide)); rfl; (solve | (simp only [go_sem, hgr]; try rfl))) | (apply s_nil; try simp only [AThen, ABlock]; try (first | (refine hK _ _ ?_; clear hK K) | (clear hK K; refine hK _ _ ?_; clear hK K) | (clear hK K; clear hK K; refine hK _ _ ?_; clear hK K))) | (apply AWp_block) | (apply AWp_skip; try simp only [AThen, ABlock]; try (first | (refine hK _ _ ?_; clear hK K) | (clear hK K; refine hK _ _ ?_; clear hK K) | (clear hK K; clear hK K; refine hK _ _ ?_; clear hK K))) | (apply AWp_exit; simp only [AThen, ABlock, reduceIte, Nat.reduceEqDiff]; try (first | (refine hK _ _ ?_; clear hK K) | (clear hK K; refine hK _ _ ?_; clear hK K) | (clear hK K; clear hK K; refine hK _ _ ?_; clear hK K))) | (apply AWp_ret; try simp only [AThen, ABlock]; apply end_ret; rfl; try simp only [AFr.get, reduceIte, Nat.reduceEqDiff]) | (apply s_mapput; (solve | (simp only [go_sem, hgr]; try rfl)); (solve | (simp only [go_sem, hgr]; try rfl)); (solve | (simp only [go_sem, hgr]; try rfl)); (solve | (simp only [go_sem, hgr]; try rfl))) | (apply s_smap; (first | decide | (dsimp only; decide)); exact mp_53; intro b hb) | (apply s_imap; (first | decide | (dsimp only; decide)); exact mp_53; intro b hb)))
    apply s_call; decide; exact (by simp only [go_sem]; try rfl); exact (by simp only [go_sem]; try rfl); apply values_c false r; intro cb hcb
    have g1 := AHeap.get_put_same cb (.box 25 [.sl false (r.map intCells)]) L
    have g2 := get_fresh hmL hcb (x := .box 25 [.sl false (r.map intCells)])
    have g3 := hE.put hcb (ob := .box 25 [.sl false (r.map intCells)])
    generalize L.put cb (.box 25 [.sl false (r.map intCells)]) = L1 at g1 g2 g3 ⊢
    apply s_call; decide; exact (by simp only [go_sem]; try rfl); exact (by simp only [go_sem]; try rfl); apply sorted_c cb false r (by omega) L1 g1; intro s2 L2 e1 e2
    have g4 := e1 m _ g2
    have g5 := g3.trans e1
    (repeat' (first | (refine AWp_seq_k (fun K hK => ?_)) | (apply s_region) | (apply s_q; (first | decide | (dsimp only; decide)); rfl; (solve | (simp only [go_sem]; try rfl))) | (apply s_nil; try simp only [AThen, ABlock]; try (first | (refine hK _ _ ?_; clear hK K) | (clear hK K; refine hK _ _ ?_; clear hK K) | (clear hK K; clear hK K; refine hK _ _ ?_; clear hK K))) | (apply AWp_block) | (apply AWp_skip; try simp only [AThen, ABlock]; try (first | (refine hK _ _ ?_; clear hK K) | (clear hK K; refine hK _ _ ?_; clear hK K) | (clear hK K; clear hK K; refine hK _ _ ?_; clear hK K))) | (apply AWp_exit; simp only [AThen, ABlock, reduceIte, Nat.reduceEqDiff]; try (first | (refine hK _ _ ?_; clear hK K) | (clear hK K; refine hK _ _ ?_; clear hK K) | (clear hK K; clear hK K; refine hK _ _ ?_; clear hK K))) | (apply AWp_ret; try simp only [AThen, ABlock]; apply end_ret; rfl; try simp only [AFr.get, reduceIte, Nat.reduceEqDiff]) | (apply s_mapput; (solve | (simp only [go_sem]; try rfl)); (solve | (simp only [go_sem]; try rfl)); (solve | (simp only [go_sem]; try rfl)); (solve | (simp only [go_sem]; try rfl))) | (apply s_smap; (first | decide | (dsimp only; decide)); exact mp_53; intro b hb) | (apply s_imap; (first | decide | (dsimp only; decide)); exact mp_53; intro b hb)))
    have hsl : (onceZ r).length + (List.replicate ((sortZ r).length - (Lib.compact (sortZ r)).length) (0 : Int)).length = (sortZ r).length := by
      have := Lib.compact_length_le (sortZ r)
      rw [List.length_replicate]
      show (Lib.compact (sortZ r)).length + _ = _
      omega
    apply s_call; decide; exact (by simp only [go_sem]; try rfl); exact (by simp only [go_sem]; try rfl); apply ACall_compact (ss := sortZ r) compacts59 (by kernel_rfl) (fun _ _ x => VR.v _) (fun F S v x hv => by cases hv; rfl) hsl e1 e2 (by rw [sortZ_len]; omega); intro a' L3 f1 f2 f3
    have f1 : RowAt 3 1 L1 L3 ((onceZ r).map intCells) a' := f1
    have g6 := f2 m _ g2
    have g7 := g3.trans f2
    have hlo := rowAt_len (e' := 3) (s' := some 1) f1 L3
    rw [List.length_map] at hlo
    (repeat' (first | (refine AWp_seq_k (fun K hK => ?_)) | (apply s_region) | (apply s_q; (first | decide | (dsimp only; decide)); rfl; (solve | (simp only [go_sem]; try rfl))) | (apply s_nil; try simp only [AThen, ABlock]; try (first | (refine hK _ _ ?_; clear hK K) | (clear hK K; refine hK _ _ ?_; clear hK K) | (clear hK K; clear hK K; refine hK _ _ ?_; clear hK K))) | (apply AWp_block) | (apply AWp_skip; try simp only [AThen, ABlock]; try (first | (refine hK _ _ ?_; clear hK K) | (clear hK K; refine hK _ _ ?_; clear hK K) | (clear hK K; clear hK K; refine hK _ _ ?_; clear hK K))) | (apply AWp_exit; simp only [AThen, ABlock, reduceIte, Nat.reduceEqDiff]; try (first | (refine hK _ _ ?_; clear hK K) | (clear hK K; refine hK _ _ ?_; clear hK K) | (clear hK K; clear hK K; refine hK _ _ ?_; clear hK K))) | (apply AWp_ret; try simp only [AThen, ABlock]; apply end_ret; rfl; try simp only [AFr.get, reduceIte, Nat.reduceEqDiff]) | (apply s_mapput; (solve | (simp only [go_sem]; try rfl)); (solve | (simp only [go_sem]; try rfl)); (solve | (simp only [go_sem]; try rfl)); (solve | (simp only [go_sem]; try rfl))) | (apply s_smap; (first | decide | (dsimp only; decide)); exact mp_53; intro b hb) | (apply s_imap; (first | decide | (dsimp only; decide)); exact mp_53; intro b hb) | ((apply s_q; decide; rfl; (simp only [go_sem]; exact hlo)))))
    have hml : (onceZ r).length ≤ 1000 := Nat.le_trans (onceZ_len r) hrl
    have hmm := onceZ_mem r
    have hmn : (onceZ r).Nodup := (onceZ_lt r).imp (fun h e => by subst e; exact absurd h (Int.lt_irrefl _))
    obtain ⟨U, hU⟩ : ∃ U, onceZ r = U := ⟨_, rfl⟩
    rw [hU] at hml hmm hmn f1 ⊢
    clear hlo hsl g1 g2 g4 g5 e1 e2 f3 hmL hE
    refine AWp_loop_s (σ := Nat × List Int × AHeap) [3, 10, 11, 12, 20, 21, 22] (fun s => [.v (.map (some m)), .sl t (rows.map rowCells), .v (.int .i64 (rows.length : Nat)), .v (.int .i64 i), a', .v (.int .i64 (U.length : Nat)), .v (.int .i64 s.1)]) (fun s => s.2.2) (fun s => U.length - s.1)
      (fun s => s.1 ≤ U.length ∧ Ext H s.2.2 ∧ s.2.2.get m = some (.imap .i64 (mk s.2.1 (fun x => rowsOf (rows.take i) x + if x ∈ U.take s.1 then 1 else 0))) ∧ RowAt 3 1 L1 s.2.2 (U.map intCells) a' ∧ s.2.1.Nodup ∧ ∀ x, x ∈ s.2.1 ↔ x ∈ (rows.take i).flatten ∨ x ∈ U.take s.1)
      (0, ks, L3) ⟨Nat.zero_le _, g7, by simpa using g6, f1, hn, fun x => by simpa using hks x⟩ rfl rfl (fun s hs => ?_)
    obtain ⟨k, ks2, L4⟩ := s
    obtain ⟨hk2, hE4, hm4, hR4, hn4, hks4⟩ := hs
    simp only [List.zip_cons_cons, List.zip_nil_right] at hk2 hE4 hm4 hR4 hn4 hks4 ⊢
    (repeat' (first | (refine AWp_seq_k (fun K hK => ?_)) | (apply s_region) | (apply s_q; (first | decide | (dsimp only; decide)); rfl; (solve | (simp only [go_sem]; try rfl))) | (apply s_nil; try simp only [AThen, ABlock]; try (first | (refine hK _ _ ?_; clear hK K) | (clear hK K; refine hK _ _ ?_; clear hK K) | (clear hK K; clear hK K; refine hK _ _ ?_; clear hK K))) | (apply AWp_block) | (apply AWp_skip; try simp only [AThen, ABlock]; try (first | (refine hK _ _ ?_; clear hK K) | (clear hK K; refine hK _ _ ?_; clear hK K) | (clear hK K; clear hK K; refine hK _ _ ?_; clear hK K))) | (apply AWp_exit; simp only [AThen, ABlock, reduceIte, Nat.reduceEqDiff]; try (first | (refine hK _ _ ?_; clear hK K) | (clear hK K; refine hK _ _ ?_; clear hK K) | (clear hK K; clear hK K; refine hK _ _ ?_; clear hK K))) | (apply AWp_ret; try simp only [AThen, ABlock]; apply end_ret; rfl; try simp only [AFr.get, reduceIte, Nat.reduceEqDiff]) | (apply s_mapput; (solve | (simp only [go_sem]; try rfl)); (solve | (simp only [go_sem]; try rfl)); (solve | (simp only [go_sem]; try rfl)); (solve | (simp only [go_sem]; try rfl))) | (apply s_smap; (first | decide | (dsimp only; decide)); exact mp_53; intro b hb) | (apply s_imap; (first | decide | (dsimp only; decide)); exact mp_53; intro b hb)))
    refine cond_split (by simp only [go_sem]; try rfl) (fun he => ?_) (fun he => ?_)
    · have hkl : k < U.length := by simpa using he
      obtain ⟨x, hx⟩ := gete hkl
      obtain ⟨pp, hpp, hpc⟩ := (arr_of hR4).at_ hx
      have hxt : x ∉ U.take k := fun hc => by
        obtain ⟨j, hj, e⟩ := List.mem_take_iff_getElem.1 hc
        have := nodup_inj hmn hx (by rw [← e]; exact List.getElem?_eq_getElem (by omega))
        omega
      obtain ⟨c, hc⟩ : ∃ c : Int → Nat, c = fun x => rowsOf (rows.take i) x + if x ∈ U.take k then 1 else 0 := ⟨_, rfl⟩
      rw [← hc] at hm4
      have hcx : c x ≤ 1000 := by
        rw [hc]
        simp only [if_neg hxt, Nat.add_zero]
        exact Nat.le_trans (rowsOf_le _ _) (by rw [List.length_take]; omega)
      have hget : kfind x (mk ks2 c) = if x ∈ ks2 then some (.v (.int .i64 (c x : Nat))) else none := mk_find c x ks2
      have hc0 : x ∉ ks2 → c x = 0 := fun h => by
        rw [hc]
        simp only [if_neg hxt, Nat.add_zero]
        exact rowsOf_zero (fun hm => h ((hks4 x).2 (.inl hm)))
      have hlk : lookupK L4 (some (.int .i64, some (.v (.int .i64 0)))) (.v (.map (some m))) (.v (.int .i64 x)) false = some (.v (.int .i64 (c x : Nat))) := by
        by_cases hin : x ∈ ks2
        · rw [if_pos hin] at hget
          simp [lookupK, mgetK, hm4, hget]
        · rw [if_neg hin] at hget
          simp [lookupK, mgetK, hm4, hget, hc0 hin]
      have e5 : IntKind.i64.wrap ((c x : Int) + 1) = ((c x + 1 : Nat) : Int) := by rw [wrap64 (by omega)]; omega
      (repeat' (first | (refine AWp_seq_k (fun K hK => ?_)) | (apply s_region) | (apply s_q; (first | decide | (dsimp only; decide)); rfl; (solve | (simp only [go_sem]; try rfl))) | (apply s_nil; try simp only [AThen, ABlock]; try (first | (refine hK _ _ ?_; clear hK K) | (clear hK K; refine hK _ _ ?_; clear hK K) | (clear hK K; clear hK K; refine hK _ _ ?_; clear hK K))) | (apply AWp_block) | (apply AWp_skip; try simp only [AThen, ABlock]; try (first | (refine hK _ _ ?_; clear hK K) | (clear hK K; refine hK _ _ ?_; clear hK K) | (clear hK K; clear hK K; refine hK _ _ ?_; clear hK K))) | (apply AWp_exit; simp only [AThen, ABlock, reduceIte, Nat.reduceEqDiff]; try (first | (refine hK _ _ ?_; clear hK K) | (clear hK K; refine hK _ _ ?_; clear hK K) | (clear hK K; clear hK K; refine hK _ _ ?_; clear hK K))) | (apply AWp_ret; try simp only [AThen, ABlock]; apply end_ret; rfl; try simp only [AFr.get, reduceIte, Nat.reduceEqDiff]) | (apply s_mapput; (solve | (simp only [go_sem]; try rfl)); (solve | (simp only [go_sem]; try rfl)); (solve | (simp only [go_sem]; try rfl)); (solve | (simp only [go_sem]; try rfl))) | (apply s_smap; (first | decide | (dsimp only; decide)); exact mp_53; intro b hb) | (apply s_imap; (first | decide | (dsimp only; decide)); exact mp_53; intro b hb)))
      apply s_q; decide; rfl; (simp only [pvK, AFr.ev, AFr.get, reduceIte, Nat.reduceEqDiff, tk_25]; exact hpp)
      apply s_q; decide; rfl; (simp only [pvK, AFr.ev, AFr.get, reduceIte, Nat.reduceEqDiff, lay_3, hpc, Option.bind_some, ldK]; rfl)
      (repeat' (first | (refine AWp_seq_k (fun K hK => ?_)) | (apply s_region) | (apply s_q; (first | decide | (dsimp only; decide)); rfl; (solve | (simp only [go_sem, hm4, e5]; try rfl))) | (apply s_nil; try simp only [AThen, ABlock]; try (first | (refine hK _ _ ?_; clear hK K) | (clear hK K; refine hK _ _ ?_; clear hK K) | (clear hK K; clear hK K; refine hK _ _ ?_; clear hK K))) | (apply AWp_block) | (apply AWp_skip; try simp only [AThen, ABlock]; try (first | (refine hK _ _ ?_; clear hK K) | (clear hK K; refine hK _ _ ?_; clear hK K) | (clear hK K; clear hK K; refine hK _ _ ?_; clear hK K))) | (apply AWp_exit; simp only [AThen, ABlock, reduceIte, Nat.reduceEqDiff]; try (first | (refine hK _ _ ?_; clear hK K) | (clear hK K; refine hK _ _ ?_; clear hK K) | (clear hK K; clear hK K; refine hK _ _ ?_; clear hK K))) | (apply AWp_ret; try simp only [AThen, ABlock]; apply end_ret; rfl; try simp only [AFr.get, reduceIte, Nat.reduceEqDiff]) | (apply s_mapput; (solve | (simp only [go_sem, hm4, e5]; try rfl)); (solve | (simp only [go_sem, hm4, e5]; try rfl)); (solve | (simp only [go_sem, hm4, e5]; try rfl)); (solve | (simp only [go_sem, hm4, e5]; try rfl))) | (apply s_smap; (first | decide | (dsimp only; decide)); exact mp_53; intro b hb) | (apply s_imap; (first | decide | (dsimp only; decide)); exact mp_53; intro b hb) | ((apply s_q; decide; rfl; (simp only [pvK, AFr.ev, AFr.get, reduceIte, Nat.reduceEqDiff, mp_53]; exact hlk)))))
      have hput := mk_put (c := c) (x := x) hn4
      rw [hput]
      refine ⟨(k + 1, if x ∈ ks2 then ks2 else ks2 ++ [x], L4.put m (.imap .i64 (mk (if x ∈ ks2 then ks2 else ks2 ++ [x]) (fun y => if y = x then c x + 1 else c y)))), by simp only; omega, ⟨by simp only; omega, hE4.over hm, ?_, hR4.put hm4 (by intro _ _ _ h; cases h), ?_, fun y => ?_⟩, ?_, by rfl⟩
      · simp only
        rw [AHeap.get_put_same]
        congr 3
        funext y
        rw [hc]
        simp only [take_succ hx, List.mem_append, List.mem_singleton]
        by_cases e : y = x
        · subst e; simp [hxt]
        · simp [e]
      · simp only
        split
        · exact hn4
        · rename_i hni
          exact List.nodup_append.2 ⟨hn4, by simp, fun a ha b hb => by simp at hb; subst hb; rintro rfl; exact hni ha⟩
      · simp only [take_succ hx, List.mem_append, List.mem_singleton]
        split
        · rename_i hin
          rw [hks4]
          constructor
          · rintro (h1 | h1)
            · exact .inl h1
            · exact .inr (.inl h1)
          · rintro (h1 | h1 | h1)
            · exact .inl h1
            · exact .inr h1
            · rw [h1]; exact (hks4 x).1 hin
        · rw [List.mem_append, List.mem_singleton, hks4, or_assoc]
      · simp only [getAll, List.map_cons, List.map_nil, AFr.get, reduceIte, Nat.reduceEqDiff]
        rw [wrapS hkl (by omega)]; try rfl
    · have hge : U.length ≤ k := by simpa using he
      rw [List.take_of_length_le hge] at hm4 hks4
      (repeat' (first | (refine AWp_seq_k (fun K hK => ?_)) | (apply s_region) | (apply s_q; (first | decide | (dsimp only; decide)); rfl; (solve | (simp only [go_sem]; try rfl))) | (apply s_nil; try simp only [AThen, ABlock]; try (first | (refine hK _ _ ?_; clear hK K) | (clear hK K; refine hK _ _ ?_; clear hK K) | (clear hK K; clear hK K; refine hK _ _ ?_; clear hK K))) | (apply AWp_block) | (apply AWp_skip; try simp only [AThen, ABlock]; try (first | (refine hK _ _ ?_; clear hK K) | (clear hK K; refine hK _ _ ?_; clear hK K) | (clear hK K; clear hK K; refine hK _ _ ?_; clear hK K))) | (apply AWp_exit; simp only [AThen, ABlock, reduceIte, Nat.reduceEqDiff]; try (first | (refine hK _ _ ?_; clear hK K) | (clear hK K; refine hK _ _ ?_; clear hK K) | (clear hK K; clear hK K; refine hK _ _ ?_; clear hK K))) | (apply AWp_ret; try simp only [AThen, ABlock]; apply end_ret; rfl; try simp only [AFr.get, reduceIte, Nat.reduceEqDiff]) | (apply s_mapput; (solve | (simp only [go_sem]; try rfl)); (solve | (simp only [go_sem]; try rfl)); (solve | (simp only [go_sem]; try rfl)); (solve | (simp only [go_sem]; try rfl))) | (apply s_smap; (first | decide | (dsimp only; decide)); exact mp_53; intro b hb) | (apply s_imap; (first | decide | (dsimp only; decide)); exact mp_53; intro b hb)))
      refine ⟨(i + 1, ks2, L4), by simp only; omega, ⟨by simp only; omega, hE4, ?_, hn4, fun x => ?_⟩, ?_, by rfl⟩
      · simp only
        rw [hm4]
        congr 3
        funext x
        rw [rowsOf_next hr]
        simp only [hmm]
      · simp only
        rw [hks4, hmm, take_succ hr]; simp
      · simp only [getAll, List.map_cons, List.map_nil, AFr.get, reduceIte, Nat.reduceEqDiff]
        rw [wrapS hil (by omega)]; try rfl
  · have hge : rows.length ≤ i := by simpa using hd
    rw [List.take_of_length_le hge] at hmL hks
    (repeat' (first | (refine AWp_seq_k (fun K hK => ?_)) | (apply s_region) | (apply s_q; (first | decide | (dsimp only; decide)); rfl; (solve | (simp only [go_sem]; try rfl))) | (apply s_nil; try simp only [AThen, ABlock]; try (first | (refine hK _ _ ?_; clear hK K) | (clear hK K; refine hK _ _ ?_; clear hK K) | (clear hK K; clear hK K; refine hK _ _ ?_; clear hK K))) | (apply AWp_block) | (apply AWp_skip; try simp only [AThen, ABlock]; try (first | (refine hK _ _ ?_; clear hK K) | (clear hK K; refine hK _ _ ?_; clear hK K) | (clear hK K; clear hK K; refine hK _ _ ?_; clear hK K))) | (apply AWp_exit; simp only [AThen, ABlock, reduceIte, Nat.reduceEqDiff]; try (first | (refine hK _ _ ?_; clear hK K) | (clear hK K; refine hK _ _ ?_; clear hK K) | (clear hK K; clear hK K; refine hK _ _ ?_; clear hK K))) | (apply AWp_ret; try simp only [AThen, ABlock]; apply end_ret; rfl; try simp only [AFr.get, reduceIte, Nat.reduceEqDiff]) | (apply s_mapput; (solve | (simp only [go_sem]; try rfl)); (solve | (simp only [go_sem]; try rfl)); (solve | (simp only [go_sem]; try rfl)); (solve | (simp only [go_sem]; try rfl))) | (apply s_smap; (first | decide | (dsimp only; decide)); exact mp_53; intro b hb) | (apply s_imap; (first | decide | (dsimp only; decide)); exact mp_53; intro b hb)))
    exact h m L ks hE hm hmL hn hks
end Go.Proofs.Ytbepggmidagbiaa
