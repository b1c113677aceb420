/-
  The contracts of those, Union, Common, Apart.
-/
import Derived.Test.YtbepggmidagbiaaM
set_option linter.unusedSimpArgs false
set_option linter.unusedVariables false
set_option maxRecDepth 100000
namespace Go.Proofs.Ytbepggmidagbiaa
open Go Go.AL
attribute [local irreducible] AOps AWp SOps AE AT ACall AApp

theorem nodup_lt {l : List Nat} {n : Nat} (hn : l.Nodup) (hs : ∀ x ∈ l, x < n) : l.length ≤ n := by
  have : ∀ (l m : List Nat), l.Nodup → (∀ x ∈ l, x ∈ m) → l.length ≤ m.length := by
    intro l
    induction l with
    | nil => intro m _ _; exact Nat.zero_le _
    | cons x l ih =>
      intro m hn hs
      rw [List.nodup_cons] at hn
      have hx := hs x (by simp)
      have := ih (m.erase x) hn.2 (fun y hy => by
        have hne : y ≠ x := by rintro rfl; exact hn.1 hy
        exact (List.mem_erase_of_ne hne).2 (hs y (by simp [hy])))
      rw [List.length_erase_of_mem hx] at this
      have := List.length_pos_of_mem hx
      simp; omega
  simpa using this l (List.range n) hn (fun x hx => List.mem_range.2 (hs x hx))
/-- what was told of the places that were seen -/
def outs (ks : List Int) (p : Int → Bool) (is : List Nat) : List Int := (is.map fun i => ks.getD i 0).filter p
theorem outs_all {ks : List Int} {p : Int → Bool} {is : List Nat} (hn : is.Nodup) (hs : ∀ i ∈ is, i < ks.length) (ha : ∀ i, i < ks.length → i ∈ is) : (outs ks p is).Perm (ks.filter p) := by
  unfold outs
  apply List.Perm.filter
  have hp : is.Perm (List.range ks.length) := (List.perm_ext_iff_of_nodup hn List.nodup_range).2 (fun a => by
    rw [List.mem_range]; exact ⟨hs a, ha a⟩)
  have h1 := hp.map (fun i => ks.getD i 0)
  have h2 : (List.range ks.length).map (fun i => ks.getD i 0) = ks := by
    apply List.ext_getElem?
    intro i
    by_cases hi : i < ks.length
    · simp [hi]
    · simp [hi]
  rwa [h2] at h1
/-- the numbers of rows of which p holds, rising, each once -/
def thoseL (rows : List (List Int)) (p : Int → Bool) : List Int := (onceZ rows.flatten).filter p
theorem sorted_uniq : ∀ {l m : List Int}, l.Pairwise (· < ·) → m.Pairwise (· < ·) → (∀ x, x ∈ l ↔ x ∈ m) → l = m := fun {l m} hl hm h => by
  have hp : l.Perm m := (List.perm_ext_iff_of_nodup (hl.imp fun h e => by subst e; exact absurd h (Int.lt_irrefl _)) (hm.imp fun h e => by subst e; exact absurd h (Int.lt_irrefl _))).2 h
  exact hp.eq_of_pairwise (le := (· < ·)) (fun a b _ _ h1 h2 => absurd (Int.lt_trans h1 h2) (Int.lt_irrefl _)) hl hm
theorem thoseL_lt (rows : List (List Int)) (p : Int → Bool) : (thoseL rows p).Pairwise (· < ·) := (onceZ_lt _).filter _
theorem thoseL_mem (rows : List (List Int)) (p : Int → Bool) (x : Int) : x ∈ thoseL rows p ↔ x ∈ rows.flatten ∧ p x = true := by
  rw [thoseL, List.mem_filter, onceZ_mem]
theorem outs_sorted {rows : List (List Int)} {ks : List Int} {p : Int → Bool} {is : List Nat} (hk : ks.Nodup) (hm : ∀ x, x ∈ ks ↔ x ∈ rows.flatten) (hn : is.Nodup) (hs : ∀ i ∈ is, i < ks.length) (ha : ∀ i, i < ks.length → i ∈ is) : sortZ (outs ks p is) = thoseL rows p := by
  have h1 := (sortZ_perm (outs ks p is)).trans (outs_all (p := p) hn hs ha)
  refine sorted_uniq ?_ (thoseL_lt _ _) (fun x => ?_)
  · have h2 := sortZ_sorted (outs ks p is)
    have h3 : (sortZ (outs ks p is)).Nodup := h1.nodup_iff.2 (hk.filter _)
    rw [List.nodup_iff_pairwise_ne] at h3
    exact (h2.and h3).imp (fun h => by omega)
  · rw [h1.mem_iff, List.mem_filter, hm, thoseL_mem]
theorem those_c (t : Bool) (rows : List (List Int)) (hl : rows.length ≤ 1000) (hk : ∀ r ∈ rows, r.length ≤ 1000) (hf : rows.flatten.length ≤ 1000000) (g : Nat) (cap : List AV) (mb : Nat → Bool) (H : AHeap)
    (hmay : ∀ (n : Nat) L, Ext H L → ∀ K : AV → AHeap → Prop, K (.v (.bool (mb n))) L → ACall X g ([.v (.int .i64 (n : Int))] ++ cap) L K)
    (Kc : AV → AHeap → Prop) (h : Kc (.sl false ((thoseL rows (fun x => mb (rowsOf rows x))).map intCells)) H) : ACall X 31 [.sl t (rows.map rowCells), .fn (.func g) [] cap] H Kc := by
  refine ACall.gr (e := 3) (sz := 1) h ?_
  clear h
  refine ACall_intro Try.func31 rfl (by kernel_rfl) (by rw [Try.ntmps31]; simp) ?_; rw [Try.ntmps31]; simp only [frame0, Nat.reduceAdd]
  (repeat' (first | (refine AWp_seq_k (fun K hK => ?_)) | (apply s_region) | (apply s_q; (first | decide | (dsimp only; decide)); rfl; (solve | (simp only [go_sem]; try rfl))) | (apply s_nil; try simp only [AThen, ABlock]; try (first | (refine hK _ _ ?_; clear hK K) | (clear hK K; refine hK _ _ ?_; clear hK K) | (clear hK K; clear hK K; refine hK _ _ ?_; clear hK K))) | (apply AWp_block) | (apply AWp_skip; try simp only [AThen, ABlock]; try (first | (refine hK _ _ ?_; clear hK K) | (clear hK K; refine hK _ _ ?_; clear hK K) | (clear hK K; clear hK K; refine hK _ _ ?_; clear hK K))) | (apply AWp_exit; simp only [AThen, ABlock, reduceIte, Nat.reduceEqDiff]; try (first | (refine hK _ _ ?_; clear hK K) | (clear hK K; refine hK _ _ ?_; clear hK K) | (clear hK K; clear hK K; refine hK _ _ ?_; clear hK K))) | (apply AWp_ret; try simp only [AThen, ABlock]; apply end_ret; rfl; try simp only [AFr.get, reduceIte, Nat.reduceEqDiff]) | (apply s_lit; (first | decide | (dsimp only; decide)); exact el_25; (solve | (simp only [go_sem]; try rfl)); (solve | (simp only [go_sem]; try rfl)); decide) | (apply s_call; (first | decide | (dsimp only; decide)); (solve | (simp only [go_sem]; try rfl)); (solve | (simp only [go_sem]; try rfl)); apply counts_c t rows hl hk; intro m L0 ks hE0 hm hm0 hnk hmk)))
  apply s_rangeI; decide; exact Try.underlying53; exact (by simp only [go_sem]; try rfl); exact hm0
  intro ents clock r hsz hr
  have hnk2 : ents.size = ks.length := by rw [hsz]; simp [mk]
  have hks : ks.length ≤ 1000000 := by
    have h1 : (onceZ rows.flatten).Nodup := (onceZ_lt _).imp fun h e => by subst e; exact absurd h (Int.lt_irrefl _)
    have h2 : ks.Perm (onceZ rows.flatten) := (List.perm_ext_iff_of_nodup hnk h1).2 (fun x => by rw [hmk, onceZ_mem])
    rw [h2.length_eq]
    exact Nat.le_trans (onceZ_len _) hf
  have hrm : r ≠ m := by rintro rfl; rw [hm0] at hr; cases hr
  have hHr : H.get r = none := none_of_ext hE0 hr
  obtain ⟨km, hkmE⟩ : ∃ km, km = AObj.kmap ents clock ((mk ks (rowsOf rows)).map fun p => .v (.int .i64 p.1)) ((mk ks (rowsOf rows)).map (·.2)) := ⟨_, rfl⟩
  rw [← hkmE]
  have f2 : ((L0.put m km).put r (.walk m ents clock [])).get m = some km := by
    rw [AHeap.get_put, if_neg (Ne.symm hrm), AHeap.get_put_same]
  have f3 := AHeap.get_put_same r (.walk m ents clock []) (L0.put m km)
  have f4 : Ext H ((L0.put m km).put r (.walk m ents clock [])) := (hE0.over hm).over hHr
  generalize (L0.put m km).put r (.walk m ents clock []) = G at f2 f3 f4 ⊢
  (repeat' (first | (refine AWp_seq_k (fun K hK => ?_)) | (apply s_region) | (apply s_q; (first | decide | (dsimp only; decide)); rfl; (solve | (simp only [go_sem]; try rfl))) | (apply s_nil; try simp only [AThen, ABlock]; try (first | (refine hK _ _ ?_; clear hK K) | (clear hK K; refine hK _ _ ?_; clear hK K) | (clear hK K; clear hK K; refine hK _ _ ?_; clear hK K))) | (apply AWp_block) | (apply AWp_skip; try simp only [AThen, ABlock]; try (first | (refine hK _ _ ?_; clear hK K) | (clear hK K; refine hK _ _ ?_; clear hK K) | (clear hK K; clear hK K; refine hK _ _ ?_; clear hK K))) | (apply AWp_exit; simp only [AThen, ABlock, reduceIte, Nat.reduceEqDiff]; try (first | (refine hK _ _ ?_; clear hK K) | (clear hK K; refine hK _ _ ?_; clear hK K) | (clear hK K; clear hK K; refine hK _ _ ?_; clear hK K))) | (apply AWp_ret; try simp only [AThen, ABlock]; apply end_ret; rfl; try simp only [AFr.get, reduceIte, Nat.reduceEqDiff]) | (apply s_lit; (first | decide | (dsimp only; decide)); exact el_25; (solve | (simp only [go_sem]; try rfl)); (solve | (simp only [go_sem]; try rfl)); decide)))
  refine AWp_loop_s (σ := List Nat × AV × AHeap) [1, 5, 10] (fun s => [.fn (.func g) [] cap, s.2.1, ptrTo r]) (fun s => s.2.2) (fun s => ks.length - s.1.length)
    (fun s => s.1.Nodup ∧ (∀ i ∈ s.1, i < ks.length) ∧ Ext H s.2.2 ∧ s.2.2.get m = some km ∧ s.2.2.get r = some (.walk m ents clock s.1) ∧ RowAt 3 1 H s.2.2 ((outs ks (fun x => mb (rowsOf rows x)) s.1).map intCells) s.2.1)
    ([], .sl true [], G) ⟨.nil, by simp, f4, f2, f3, RowAt.nil _ _ _ _⟩ rfl rfl (fun s hs => ?_)
  obtain ⟨is, o, L⟩ := s
  obtain ⟨hnd, hlt, hE, gm, gr, hR⟩ := hs
  simp only [List.zip_cons_cons, List.zip_nil_right] at hnd hlt hE gm gr hR ⊢
  have hol : (outs ks (fun x => mb (rowsOf rows x)) is).length ≤ 1000000 := by
    have h1 := nodup_lt hnd hlt
    have h2 : (outs ks (fun x => mb (rowsOf rows x)) is).length ≤ is.length := Nat.le_trans (List.length_filter_le _ _) (by simp)
    omega
  have gm2 := gm
  rw [hkmE] at gm2
  (repeat' (first | (refine AWp_seq_k (fun K hK => ?_)) | (apply s_region) | (apply s_q; (first | decide | (dsimp only; decide)); rfl; (solve | (simp only [go_sem]; try rfl))) | (apply s_nil; try simp only [AThen, ABlock]; try (first | (refine hK _ _ ?_; clear hK K) | (clear hK K; refine hK _ _ ?_; clear hK K) | (clear hK K; clear hK K; refine hK _ _ ?_; clear hK K))) | (apply AWp_block) | (apply AWp_skip; try simp only [AThen, ABlock]; try (first | (refine hK _ _ ?_; clear hK K) | (clear hK K; refine hK _ _ ?_; clear hK K) | (clear hK K; clear hK K; refine hK _ _ ?_; clear hK K))) | (apply AWp_exit; simp only [AThen, ABlock, reduceIte, Nat.reduceEqDiff]; try (first | (refine hK _ _ ?_; clear hK K) | (clear hK K; refine hK _ _ ?_; clear hK K) | (clear hK K; clear hK K; refine hK _ _ ?_; clear hK K))) | (apply AWp_ret; try simp only [AThen, ABlock]; apply end_ret; rfl; try simp only [AFr.get, reduceIte, Nat.reduceEqDiff]) | (apply s_lit; (first | decide | (dsimp only; decide)); exact el_25; (solve | (simp only [go_sem]; try rfl)); (solve | (simp only [go_sem]; try rfl)); decide)))
  apply s_nextM; decide; exact (by simp only [go_sem]; try rfl); exact gr; exact gm2; exact (fun i hi => by rw [hnk2]; exact hlt i hi)
  · intro hall
    rw [hnk2] at hall
    have e := outs_sorted (p := fun x => mb (rowsOf rows x)) hnk hmk hnd hlt hall
    (repeat' (first | (refine AWp_seq_k (fun K hK => ?_)) | (apply s_region) | (apply s_q; (first | decide | (dsimp only; decide)); rfl; (solve | (simp only [go_sem]; try rfl))) | (apply s_nil; try simp only [AThen, ABlock]; try (first | (refine hK _ _ ?_; clear hK K) | (clear hK K; refine hK _ _ ?_; clear hK K) | (clear hK K; clear hK K; refine hK _ _ ?_; clear hK K))) | (apply AWp_block) | (apply AWp_skip; try simp only [AThen, ABlock]; try (first | (refine hK _ _ ?_; clear hK K) | (clear hK K; refine hK _ _ ?_; clear hK K) | (clear hK K; clear hK K; refine hK _ _ ?_; clear hK K))) | (apply AWp_exit; simp only [AThen, ABlock, reduceIte, Nat.reduceEqDiff]; try (first | (refine hK _ _ ?_; clear hK K) | (clear hK K; refine hK _ _ ?_; clear hK K) | (clear hK K; clear hK K; refine hK _ _ ?_; clear hK K))) | (apply AWp_ret; try simp only [AThen, ABlock]; apply end_ret; rfl; try simp only [AFr.get, reduceIte, Nat.reduceEqDiff]) | (apply s_lit; (first | decide | (dsimp only; decide)); exact el_25; (solve | (simp only [go_sem]; try rfl)); (solve | (simp only [go_sem]; try rfl)); decide)))
    refine cond_split (by simp only [go_sem]; try rfl) (fun hz => ?_) (fun hz => ?_)
    · cases hz
    (repeat' (first | (refine AWp_seq_k (fun K hK => ?_)) | (apply s_region) | (apply s_q; (first | decide | (dsimp only; decide)); rfl; (solve | (simp only [go_sem]; try rfl))) | (apply s_nil; try simp only [AThen, ABlock]; try (first | (refine hK _ _ ?_; clear hK K) | (clear hK K; refine hK _ _ ?_; clear hK K) | (clear hK K; clear hK K; refine hK _ _ ?_; clear hK K))) | (apply AWp_block) | (apply AWp_skip; try simp only [AThen, ABlock]; try (first | (refine hK _ _ ?_; clear hK K) | (clear hK K; refine hK _ _ ?_; clear hK K) | (clear hK K; clear hK K; refine hK _ _ ?_; clear hK K))) | (apply AWp_exit; simp only [AThen, ABlock, reduceIte, Nat.reduceEqDiff]; try (first | (refine hK _ _ ?_; clear hK K) | (clear hK K; refine hK _ _ ?_; clear hK K) | (clear hK K; clear hK K; refine hK _ _ ?_; clear hK K))) | (apply AWp_ret; try simp only [AThen, ABlock]; apply end_ret; rfl; try simp only [AFr.get, reduceIte, Nat.reduceEqDiff]) | (apply s_lit; (first | decide | (dsimp only; decide)); exact el_25; (solve | (simp only [go_sem]; try rfl)); (solve | (simp only [go_sem]; try rfl)); decide) | (apply s_call; (first | decide | (dsimp only; decide)); (solve | (simp only [go_sem]; try rfl)); (solve | (simp only [go_sem]; try rfl)); apply ACall_ord (ss := outs ks (fun x => mb (rowsOf rows x)) is) sortsI44 (by kernel_rfl) (fun _ _ x => VR.v _) (fun F S v x hv => by cases hv; rfl) (sortZ_len _) hE hR (by omega); intro L2 hR2 hE2 hK2)))
    rw [e] at hR2
    exact RowAt.toGr hR2 hE2
  · intro i k x hni hk hx
    rw [List.getElem?_map, Option.map_eq_some_iff] at hk hx
    obtain ⟨p, hp, rfl⟩ := hk
    obtain ⟨p2, hp2, rfl⟩ := hx
    rw [hp] at hp2; cases hp2
    have hil : i < ks.length := by
      have := (List.getElem?_eq_some_iff.1 hp).1
      simpa [mk] using this
    obtain ⟨k, hki⟩ := gete hil
    have hpk : p = (k, .v (.int .i64 (rowsOf rows k : Nat))) := by
      rw [mk, List.getElem?_map, hki] at hp; cases hp; rfl
    subst hpk
    have hkd : ks.getD i 0 = k := by rw [List.getD_eq_getElem?_getD, hki]; rfl
    have km1 : (L.put r (.walk m ents clock (is ++ [i]))).get m = some km := by rw [AHeap.get_put, if_neg (Ne.symm hrm)]; exact gm
    have km2 := km1
    rw [hkmE] at km2
    have kr := AHeap.get_put_same r (.walk m ents clock (is ++ [i])) L
    have kE := hE.over (o := .walk m ents clock (is ++ [i])) hHr
    have kR := hR.put gr (fun _ _ _ h => by cases h) (o' := .walk m ents clock (is ++ [i]))
    generalize L.put r (.walk m ents clock (is ++ [i])) = M at km1 km2 kr kE kR ⊢
    have hnd2 : (is ++ [i]).Nodup := List.nodup_append.2 ⟨hnd, by simp, fun a ha b hb => by simp at hb; subst hb; rintro rfl; exact hni ha⟩
    have hlt2 : ∀ j ∈ is ++ [i], j < ks.length := fun j hj => by
      rcases List.mem_append.1 hj with h | h
      · exact hlt j h
      · simp at h; subst h; exact hil
    have hlen2 := nodup_lt hnd2 hlt2
    (repeat' (first | (refine AWp_seq_k (fun K hK => ?_)) | (apply s_region) | (apply s_q; (first | decide | (dsimp only; decide)); rfl; (solve | (simp only [go_sem]; try rfl))) | (apply s_nil; try simp only [AThen, ABlock]; try (first | (refine hK _ _ ?_; clear hK K) | (clear hK K; refine hK _ _ ?_; clear hK K) | (clear hK K; clear hK K; refine hK _ _ ?_; clear hK K))) | (apply AWp_block) | (apply AWp_skip; try simp only [AThen, ABlock]; try (first | (refine hK _ _ ?_; clear hK K) | (clear hK K; refine hK _ _ ?_; clear hK K) | (clear hK K; clear hK K; refine hK _ _ ?_; clear hK K))) | (apply AWp_exit; simp only [AThen, ABlock, reduceIte, Nat.reduceEqDiff]; try (first | (refine hK _ _ ?_; clear hK K) | (clear hK K; refine hK _ _ ?_; clear hK K) | (clear hK K; clear hK K; refine hK _ _ ?_; clear hK K))) | (apply AWp_ret; try simp only [AThen, ABlock]; apply end_ret; rfl; try simp only [AFr.get, reduceIte, Nat.reduceEqDiff]) | (apply s_lit; (first | decide | (dsimp only; decide)); exact el_25; (solve | (simp only [go_sem]; try rfl)); (solve | (simp only [go_sem]; try rfl)); decide)))
    refine cond_split (by simp only [go_sem]; try rfl) (fun hz => ?_) (fun hz => ?_)
    rotate_left
    · cases hz
    (repeat' (first | (refine AWp_seq_k (fun K hK => ?_)) | (apply s_region) | (apply s_q; (first | decide | (dsimp only; decide)); rfl; (solve | (simp only [go_sem]; try rfl))) | (apply s_nil; try simp only [AThen, ABlock]; try (first | (refine hK _ _ ?_; clear hK K) | (clear hK K; refine hK _ _ ?_; clear hK K) | (clear hK K; clear hK K; refine hK _ _ ?_; clear hK K))) | (apply AWp_block) | (apply AWp_skip; try simp only [AThen, ABlock]; try (first | (refine hK _ _ ?_; clear hK K) | (clear hK K; refine hK _ _ ?_; clear hK K) | (clear hK K; clear hK K; refine hK _ _ ?_; clear hK K))) | (apply AWp_exit; simp only [AThen, ABlock, reduceIte, Nat.reduceEqDiff]; try (first | (refine hK _ _ ?_; clear hK K) | (clear hK K; refine hK _ _ ?_; clear hK K) | (clear hK K; clear hK K; refine hK _ _ ?_; clear hK K))) | (apply AWp_ret; try simp only [AThen, ABlock]; apply end_ret; rfl; try simp only [AFr.get, reduceIte, Nat.reduceEqDiff]) | (apply s_lit; (first | decide | (dsimp only; decide)); exact el_25; (solve | (simp only [go_sem]; try rfl)); (solve | (simp only [go_sem]; try rfl)); decide)))
    apply s_entryM; decide; exact (by simp only [go_sem]; try rfl); exact kr; exact km2; (rw [List.getElem?_map, hp]; rfl); (rw [List.getElem?_map, hp]; rfl)
    (repeat' (first | (refine AWp_seq_k (fun K hK => ?_)) | (apply s_region) | (apply s_q; (first | decide | (dsimp only; decide)); rfl; (solve | (simp only [go_sem]; try rfl))) | (apply s_nil; try simp only [AThen, ABlock]; try (first | (refine hK _ _ ?_; clear hK K) | (clear hK K; refine hK _ _ ?_; clear hK K) | (clear hK K; clear hK K; refine hK _ _ ?_; clear hK K))) | (apply AWp_block) | (apply AWp_skip; try simp only [AThen, ABlock]; try (first | (refine hK _ _ ?_; clear hK K) | (clear hK K; refine hK _ _ ?_; clear hK K) | (clear hK K; clear hK K; refine hK _ _ ?_; clear hK K))) | (apply AWp_exit; simp only [AThen, ABlock, reduceIte, Nat.reduceEqDiff]; try (first | (refine hK _ _ ?_; clear hK K) | (clear hK K; refine hK _ _ ?_; clear hK K) | (clear hK K; clear hK K; refine hK _ _ ?_; clear hK K))) | (apply AWp_ret; try simp only [AThen, ABlock]; apply end_ret; rfl; try simp only [AFr.get, reduceIte, Nat.reduceEqDiff]) | (apply s_lit; (first | decide | (dsimp only; decide)); exact el_25; (solve | (simp only [go_sem]; try rfl)); (solve | (simp only [go_sem]; try rfl)); decide) | (apply s_call; (first | decide | (dsimp only; decide)); (solve | (simp only [go_sem]; try rfl)); (solve | (simp only [go_sem]; try rfl)); apply hmay (rowsOf rows k) _ kE)))
    refine cond_split (by simp only [go_sem]; try rfl) (fun hw => ?_) (fun hw => ?_)
    · have eo : outs ks (fun x => mb (rowsOf rows x)) (is ++ [i]) = outs ks (fun x => mb (rowsOf rows x)) is ++ [k] := by
        unfold outs
        rw [List.map_append, List.filter_append, List.map_singleton, hkd]
        simp [hw]
      (repeat' (first | (refine AWp_seq_k (fun K hK => ?_)) | (apply s_region) | (apply s_q; (first | decide | (dsimp only; decide)); rfl; (solve | (simp only [go_sem]; try rfl))) | (apply s_nil; try simp only [AThen, ABlock]; try (first | (refine hK _ _ ?_; clear hK K) | (clear hK K; refine hK _ _ ?_; clear hK K) | (clear hK K; clear hK K; refine hK _ _ ?_; clear hK K))) | (apply AWp_block) | (apply AWp_skip; try simp only [AThen, ABlock]; try (first | (refine hK _ _ ?_; clear hK K) | (clear hK K; refine hK _ _ ?_; clear hK K) | (clear hK K; clear hK K; refine hK _ _ ?_; clear hK K))) | (apply AWp_exit; simp only [AThen, ABlock, reduceIte, Nat.reduceEqDiff]; try (first | (refine hK _ _ ?_; clear hK K) | (clear hK K; refine hK _ _ ?_; clear hK K) | (clear hK K; clear hK K; refine hK _ _ ?_; clear hK K))) | (apply AWp_ret; try simp only [AThen, ABlock]; apply end_ret; rfl; try simp only [AFr.get, reduceIte, Nat.reduceEqDiff]) | (apply s_lit; (first | decide | (dsimp only; decide)); exact el_25; (solve | (simp only [go_sem]; try rfl)); (solve | (simp only [go_sem]; try rfl)); decide) | (apply s_append; (first | decide | (dsimp only; decide)); (solve | (simp only [go_sem]; try rfl)); (solve | (simp only [go_sem]; try rfl)); apply AApp_at el_25 kE kR (l := outs ks (fun x => mb (rowsOf rows x)) is) (m := [k]) (g := intCells) rfl rfl tk_25 int_one (by simp; omega) (by simp; omega); intro o2 M2 hR2 hE2 hK2)))
      refine ⟨(is ++ [i], o2, M2), ?_, ⟨hnd2, hlt2, hE2, hK2 m _ km1 (fun _ _ _ h => by rw [hkmE] at h; cases h), hK2 r _ kr (fun _ _ _ h => by cases h), by simp only; rw [eo]; exact hR2⟩, by trivial, by trivial⟩
      simp only [List.length_append, List.length_cons, List.length_nil] at hlen2 ⊢
      omega
    · have eo : outs ks (fun x => mb (rowsOf rows x)) (is ++ [i]) = outs ks (fun x => mb (rowsOf rows x)) is := by
        unfold outs
        rw [List.map_append, List.filter_append, List.map_singleton, hkd]
        simp [hw]
      (repeat' (first | (refine AWp_seq_k (fun K hK => ?_)) | (apply s_region) | (apply s_q; (first | decide | (dsimp only; decide)); rfl; (solve | (simp only [go_sem]; try rfl))) | (apply s_nil; try simp only [AThen, ABlock]; try (first | (refine hK _ _ ?_; clear hK K) | (clear hK K; refine hK _ _ ?_; clear hK K) | (clear hK K; clear hK K; refine hK _ _ ?_; clear hK K))) | (apply AWp_block) | (apply AWp_skip; try simp only [AThen, ABlock]; try (first | (refine hK _ _ ?_; clear hK K) | (clear hK K; refine hK _ _ ?_; clear hK K) | (clear hK K; clear hK K; refine hK _ _ ?_; clear hK K))) | (apply AWp_exit; simp only [AThen, ABlock, reduceIte, Nat.reduceEqDiff]; try (first | (refine hK _ _ ?_; clear hK K) | (clear hK K; refine hK _ _ ?_; clear hK K) | (clear hK K; clear hK K; refine hK _ _ ?_; clear hK K))) | (apply AWp_ret; try simp only [AThen, ABlock]; apply end_ret; rfl; try simp only [AFr.get, reduceIte, Nat.reduceEqDiff]) | (apply s_lit; (first | decide | (dsimp only; decide)); exact el_25; (solve | (simp only [go_sem]; try rfl)); (solve | (simp only [go_sem]; try rfl)); decide)))
      refine ⟨(is ++ [i], o, M), ?_, ⟨hnd2, hlt2, kE, km1, kr, by simp only; rw [eo]; exact kR⟩, by trivial, by trivial⟩
      simp only [List.length_append, List.length_cons, List.length_nil] at hlen2 ⊢
      omega
theorem yes_c (n : Int) (H : AHeap) (K : AV → AHeap → Prop) (h : K (.v (.bool true)) H) : ACall X 32 [.v (.int .i64 n)] H K := by
  refine ACall_intro Try.func32 rfl (by kernel_rfl) (by rw [Try.ntmps32]; simp) ?_; rw [Try.ntmps32]; simp only [frame0, Nat.reduceAdd]
  (repeat' (first | (refine AWp_seq_k (fun K hK => ?_)) | (apply s_region) | (apply s_q; (first | decide | (dsimp only; decide)); rfl; (solve | (simp only [go_sem]; try rfl))) | (apply s_nil; try simp only [AThen, ABlock]; try (first | (refine hK _ _ ?_; clear hK K) | (clear hK K; refine hK _ _ ?_; clear hK K) | (clear hK K; clear hK K; refine hK _ _ ?_; clear hK K))) | (apply AWp_ret; try simp only [AThen, ABlock]; apply end_ret; rfl; try simp only [AFr.get, reduceIte, Nat.reduceEqDiff])))
  exact h
theorem all_c (t : Bool) (rows : List (List Int)) (n q : Nat) (H : AHeap) (hq : H.get q = some (.box 22 [.sl t (rows.map rowCells)])) (K : AV → AHeap → Prop) (h : K (.v (.bool (decide (n = rows.length)))) H) : ACall X 34 [.v (.int .i64 (n : Int)), ptrTo q] H K := by
  refine ACall_intro Try.func34 rfl (by kernel_rfl) (by rw [Try.ntmps34]; simp) ?_; rw [Try.ntmps34]; simp only [frame0, Nat.reduceAdd]
  (repeat' (first | (refine AWp_seq_k (fun K hK => ?_)) | (apply s_region) | (apply s_q; (first | decide | (dsimp only; decide)); rfl; (solve | (simp only [go_sem, hq]; try rfl))) | (apply s_nil; try simp only [AThen, ABlock]; try (first | (refine hK _ _ ?_; clear hK K) | (clear hK K; refine hK _ _ ?_; clear hK K) | (clear hK K; clear hK K; refine hK _ _ ?_; clear hK K))) | (apply AWp_ret; try simp only [AThen, ABlock]; apply end_ret; rfl; try simp only [AFr.get, reduceIte, Nat.reduceEqDiff])))
  refine finB h ?_
  by_cases e : n = rows.length
  · rw [decide_eq_true e, decide_eq_true (by omega)]
  · rw [decide_eq_false e, decide_eq_false (by omega)]
theorem notall_c (t : Bool) (rows : List (List Int)) (n q : Nat) (H : AHeap) (hq : H.get q = some (.box 22 [.sl t (rows.map rowCells)])) (K : AV → AHeap → Prop) (h : K (.v (.bool (decide (n < rows.length)))) H) : ACall X 36 [.v (.int .i64 (n : Int)), ptrTo q] H K := by
  refine ACall_intro Try.func36 rfl (by kernel_rfl) (by rw [Try.ntmps36]; simp) ?_; rw [Try.ntmps36]; simp only [frame0, Nat.reduceAdd]
  (repeat' (first | (refine AWp_seq_k (fun K hK => ?_)) | (apply s_region) | (apply s_q; (first | decide | (dsimp only; decide)); rfl; (solve | (simp only [go_sem, hq]; try rfl))) | (apply s_nil; try simp only [AThen, ABlock]; try (first | (refine hK _ _ ?_; clear hK K) | (clear hK K; refine hK _ _ ?_; clear hK K) | (clear hK K; clear hK K; refine hK _ _ ?_; clear hK K))) | (apply AWp_ret; try simp only [AThen, ABlock]; apply end_ret; rfl; try simp only [AFr.get, reduceIte, Nat.reduceEqDiff])))
  refine finB h ?_
  by_cases e : n < rows.length
  · rw [decide_eq_true e, decide_eq_true (by omega)]
  · rw [decide_eq_false e, decide_eq_false (by omega)]
def unionL (rows : List (List Int)) : List Int := thoseL rows (fun _ => true)
def commonL (rows : List (List Int)) : List Int := thoseL rows (fun x => decide (rowsOf rows x = rows.length))
def apartL (rows : List (List Int)) : List Int := thoseL rows (fun x => decide (rowsOf rows x < rows.length))
theorem union_c (t : Bool) (rows : List (List Int)) (hl : rows.length ≤ 1000) (hk : ∀ r ∈ rows, r.length ≤ 1000) (hf : rows.flatten.length ≤ 1000000) (H : AHeap) (Kc : AV → AHeap → Prop) (h : Kc (.sl false ((unionL rows).map intCells)) H) : ACall X 16 [.sl t (rows.map rowCells)] H Kc := by
  refine ACall_intro Try.func16 rfl (by kernel_rfl) (by rw [Try.ntmps16]; simp) ?_; rw [Try.ntmps16]; simp only [frame0, Nat.reduceAdd]
  (repeat' (first | (refine AWp_seq_k (fun K hK => ?_)) | (apply s_region) | (apply s_q; (first | decide | (dsimp only; decide)); rfl; (solve | (simp only [go_sem]; try rfl))) | (apply s_nil; try simp only [AThen, ABlock]; try (first | (refine hK _ _ ?_; clear hK K) | (clear hK K; refine hK _ _ ?_; clear hK K) | (clear hK K; clear hK K; refine hK _ _ ?_; clear hK K))) | (apply AWp_ret; try simp only [AThen, ABlock]; apply end_ret; rfl; try simp only [AFr.get, reduceIte, Nat.reduceEqDiff]) | (apply s_call; (first | decide | (dsimp only; decide)); (solve | (simp only [go_sem]; try rfl)); (solve | (simp only [go_sem]; try rfl)); apply those_c t rows hl hk hf 32 [] (fun _ => true) H (fun n L _ K h => yes_c _ _ K h))))
  exact h
theorem common_c (t : Bool) (rows : List (List Int)) (hl : rows.length ≤ 1000) (hk : ∀ r ∈ rows, r.length ≤ 1000) (hf : rows.flatten.length ≤ 1000000) (H : AHeap) (Kc : AV → AHeap → Prop) (h : Kc (.sl false ((commonL rows).map intCells)) H) : ACall X 18 [.sl t (rows.map rowCells)] H Kc := by
  refine ACall.drop ?_
  refine ACall_intro Try.func18 rfl (by kernel_rfl) (by rw [Try.ntmps18]; simp) ?_; rw [Try.ntmps18]; simp only [frame0, Nat.reduceAdd]
  refine AWp_seq_k (fun K hK => ?_); apply s_region
  apply s_box; decide; exact (by simp only [go_sem]; try rfl); exact (by simp only [go_sem]; try rfl); intro q hq
  have e1 := AHeap.get_put_same q (.box 22 [.sl t (rows.map rowCells)]) H
  have e3 := Ext.fresh hq (o := .box 22 [.sl t (rows.map rowCells)])
  generalize AHeap.put q (.box 22 [.sl t (rows.map rowCells)]) H = M at e1 e3 ⊢
  (repeat' (first | (refine AWp_seq_k (fun K hK => ?_)) | (apply s_region) | (apply s_q; (first | decide | (dsimp only; decide)); rfl; (solve | (simp only [go_sem, e1]; try rfl))) | (apply s_nil; try simp only [AThen, ABlock]; try (first | (refine hK _ _ ?_; clear hK K) | (clear hK K; refine hK _ _ ?_; clear hK K) | (clear hK K; clear hK K; refine hK _ _ ?_; clear hK K))) | (apply AWp_ret; try simp only [AThen, ABlock]; apply end_ret; rfl; try simp only [AFr.get, reduceIte, Nat.reduceEqDiff]) | (apply s_box; (first | decide | (dsimp only; decide)); (solve | (simp only [go_sem, e1]; try rfl)); (solve | (simp only [go_sem, e1]; try rfl)); intro b hb) | (apply s_call; (first | decide | (dsimp only; decide)); (solve | (simp only [go_sem, e1]; try rfl)); (solve | (simp only [go_sem, e1]; try rfl)); apply those_c t rows hl hk hf 34 [ptrTo q] (fun n => decide (n = rows.length)) M (fun n L hE K h => all_c t rows n q L (hE q _ e1) K h))))
  exact ⟨H, e3, h⟩
theorem apart_c (t : Bool) (rows : List (List Int)) (hl : rows.length ≤ 1000) (hk : ∀ r ∈ rows, r.length ≤ 1000) (hf : rows.flatten.length ≤ 1000000) (H : AHeap) (Kc : AV → AHeap → Prop) (h : Kc (.sl false ((apartL rows).map intCells)) H) : ACall X 20 [.sl t (rows.map rowCells)] H Kc := by
  refine ACall.drop ?_
  refine ACall_intro Try.func20 rfl (by kernel_rfl) (by rw [Try.ntmps20]; simp) ?_; rw [Try.ntmps20]; simp only [frame0, Nat.reduceAdd]
  refine AWp_seq_k (fun K hK => ?_); apply s_region
  apply s_box; decide; exact (by simp only [go_sem]; try rfl); exact (by simp only [go_sem]; try rfl); intro q hq
  have e1 := AHeap.get_put_same q (.box 22 [.sl t (rows.map rowCells)]) H
  have e3 := Ext.fresh hq (o := .box 22 [.sl t (rows.map rowCells)])
  generalize AHeap.put q (.box 22 [.sl t (rows.map rowCells)]) H = M at e1 e3 ⊢
  (repeat' (first | (refine AWp_seq_k (fun K hK => ?_)) | (apply s_region) | (apply s_q; (first | decide | (dsimp only; decide)); rfl; (solve | (simp only [go_sem, e1]; try rfl))) | (apply s_nil; try simp only [AThen, ABlock]; try (first | (refine hK _ _ ?_; clear hK K) | (clear hK K; refine hK _ _ ?_; clear hK K) | (clear hK K; clear hK K; refine hK _ _ ?_; clear hK K))) | (apply AWp_ret; try simp only [AThen, ABlock]; apply end_ret; rfl; try simp only [AFr.get, reduceIte, Nat.reduceEqDiff]) | (apply s_box; (first | decide | (dsimp only; decide)); (solve | (simp only [go_sem, e1]; try rfl)); (solve | (simp only [go_sem, e1]; try rfl)); intro b hb) | (apply s_call; (first | decide | (dsimp only; decide)); (solve | (simp only [go_sem, e1]; try rfl)); (solve | (simp only [go_sem, e1]; try rfl)); apply those_c t rows hl hk hf 36 [ptrTo q] (fun n => decide (n < rows.length)) M (fun n L hE K h => notall_c t rows n q L (hE q _ e1) K h))))
  exact ⟨H, e3, h⟩
end Go.Proofs.Ytbepggmidagbiaa
