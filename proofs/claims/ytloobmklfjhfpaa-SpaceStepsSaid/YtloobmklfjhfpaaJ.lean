/-
  The contract of Above.
-/
import Derived.Test.YtloobmklfjhfpaaI
import Derived.Test.YtloobmklfjhfpaaAL3
set_option linter.unusedSimpArgs false
set_option linter.unusedVariables false
set_option maxRecDepth 100000
namespace Go.Proofs.Ytloobmklfjhfpaa
open Go Go.AL
attribute [local irreducible] AOps AWp SOps AE AT ACall AApp

theorem sortL_eq {l m : List (List UInt8)} (h : l.Perm m) : sortL l = sortL m := by
  have tr : ∀ a b c : List UInt8, decide (a ≤ b) = true → decide (b ≤ c) = true → decide (a ≤ c) = true := fun a b c h k => by
    simp only [decide_eq_true_eq] at *; exact List.le_trans h k
  have tt : ∀ a b : List UInt8, (decide (a ≤ b) || decide (b ≤ a)) = true := fun a b => by
    simp only [Bool.or_eq_true, decide_eq_true_eq]; exact List.le_total _ _
  refine List.Perm.eq_of_pairwise (le := fun a b => decide (a ≤ b) = true) (fun a b _ _ h1 h2 => ?_) (List.pairwise_mergeSort tr tt _) (List.pairwise_mergeSort tr tt _) (((List.mergeSort_perm _ _).trans h).trans (List.mergeSort_perm _ _).symm)
  simp only [decide_eq_true_eq] at h1 h2
  exact List.le_antisymm h1 h2
def hasKid (l : List Space) (id k : List UInt8) : Bool := (kidsOf l k).any fun c => decide (c.id = id)
def keysE (l : List Space) : List (List UInt8) := (idxE l).map (·.1)
def aboveL (l : List Space) (id : List UInt8) : List (List UInt8) := sortL ((keysE l).filter (hasKid l id))
theorem kput_keys (k : List UInt8) (a : AV) : ∀ es : List (List UInt8 × AV), (es.map (·.1)).Nodup → ((kput k a es).map (·.1)).Nodup ∧ (∀ x, x ∈ (kput k a es).map (·.1) ↔ x = k ∨ x ∈ es.map (·.1)) ∧ (kput k a es).length ≤ es.length + 1
  | [], _ => ⟨by simp [kput], by simp [kput], by simp [kput]⟩
  | p :: es, h => by
    simp only [List.map_cons, List.nodup_cons] at h
    obtain ⟨i1, i2, i3⟩ := kput_keys k a es h.2
    simp only [kput]
    by_cases e : p.1 = k
    · rw [if_pos e]
      subst e
      refine ⟨by simp only [List.map_cons, List.nodup_cons]; exact h, fun x => by simp, by simp⟩
    · rw [if_neg e]
      refine ⟨?_, fun x => ?_, by simp; omega⟩
      · simp only [List.map_cons, List.nodup_cons]
        refine ⟨fun hm => ?_, i1⟩
        rcases (i2 _).1 hm with h1 | h1
        · exact e h1
        · exact h.1 h1
      · simp only [List.map_cons, List.mem_cons, i2]
        constructor
        · rintro (h1 | h1 | h1)
          · exact .inr (.inl h1)
          · exact .inl h1
          · exact .inr (.inr h1)
        · rintro (h1 | h1 | h1)
          · exact .inr (.inl h1)
          · exact .inl h1
          · exact .inr (.inr h1)
theorem keysE_ok : ∀ l : List Space, (keysE l).Nodup ∧ (∀ x, x ∈ keysE l ↔ ∃ s ∈ l, s.id = x) ∧ (keysE l).length ≤ l.length
  | [] => ⟨.nil, by simp [keysE, idxE], by simp [keysE, idxE]⟩
  | s :: l => by
    obtain ⟨i1, i2, i3⟩ := keysE_ok l
    obtain ⟨k1, k2, k3⟩ := kput_keys s.id (.sl false (s.kids.map Child.cells)) (idxE l) i1
    refine ⟨k1, fun x => ?_, ?_⟩
    · show x ∈ (kput s.id _ (idxE l)).map (·.1) ↔ _
      rw [k2]
      show x = s.id ∨ x ∈ keysE l ↔ _
      rw [i2]
      simp only [List.mem_cons, exists_eq_or_imp]
      constructor <;> (rintro (h1 | h1); exact .inl h1.symm; exact .inr h1)
    · show ((kput s.id _ (idxE l)).map (·.1)).length ≤ _
      rw [List.length_map]
      have : (idxE l).length ≤ l.length := by simpa [keysE] using i3
      simp; omega
theorem idxE_at {l : List Space} {i : Nat} {k : List UInt8} {a : AV} (h : (idxE l)[i]? = some (k, a)) : a = .sl false ((kidsOf l k).map Child.cells) := by
  have hn := (keysE_ok l).1
  have hf : kfind k (idxE l) = some a := by
    have : ∀ (es : List (List UInt8 × AV)), (es.map (·.1)).Nodup → (k, a) ∈ es → kfind k es = some a := by
      intro es
      induction es with
      | nil => intro _ h; cases h
      | cons p es ih =>
        intro hn hm
        simp only [List.map_cons, List.nodup_cons] at hn
        simp only [kfind]
        rcases List.mem_cons.1 hm with h1 | h1
        · subst h1; simp
        · rw [if_neg]
          · exact ih hn.2 h1
          · intro e
            exact hn.1 (List.mem_map.2 ⟨_, h1, e.symm⟩)
    exact this _ hn (List.mem_of_getElem? h)
  rw [idx_find] at hf
  unfold kidsOf
  cases hfi : l.find? (fun s => decide (s.id = k)) with
  | none => rw [hfi] at hf; cases hf
  | some s => rw [hfi] at hf; simpa using hf.symm
/-- what was told of the places that were seen -/
def outsE (l : List Space) (id : List UInt8) (is : List Nat) : List (List UInt8) := (is.map fun i => (keysE l).getD i []).filter (hasKid l id)
theorem nodup_nat_le : ∀ {l : List Nat} {n : Nat}, l.Nodup → (∀ x ∈ l, x < n) → l.length ≤ n
  | l, n, hn, hs => by
    have : ∀ (l m : List Nat), l.Nodup → (∀ x ∈ l, x ∈ m) → l.length ≤ m.length := by
      intro l
      induction l with
      | nil => intro m _ _; exact Nat.zero_le _
      | cons x l ih =>
        intro m hn hs
        rw [List.nodup_cons] at hn
        have hx := hs x (by simp)
        have := ih (m.erase x) hn.2 (fun y hy => by
          have hne : y ≠ x := by rintro rfl; exact hn.1 hy
          exact (List.mem_erase_of_ne hne).2 (hs y (by simp [hy])))
        rw [List.length_erase_of_mem hx] at this
        have := List.length_pos_of_mem hx
        simp; omega
    have h := this l (List.range n) hn (fun x hx => List.mem_range.2 (hs x hx))
    simpa using h
theorem outs_all {l : List Space} {id : List UInt8} {is : List Nat} (hn : is.Nodup) (hs : ∀ i ∈ is, i < (keysE l).length) (ha : ∀ i, i < (keysE l).length → i ∈ is) : sortL (outsE l id is) = aboveL l id := by
  apply sortL_eq
  unfold outsE
  apply List.Perm.filter
  have hp : is.Perm (List.range (keysE l).length) := (List.perm_ext_iff_of_nodup hn List.nodup_range).2 (fun a => by
    rw [List.mem_range]; exact ⟨hs a, ha a⟩)
  have h1 := hp.map (fun i => (keysE l).getD i [])
  have h2 : (List.range (keysE l).length).map (fun i => (keysE l).getD i []) = keysE l := by
    apply List.ext_getElem?
    intro i
    by_cases hi : i < (keysE l).length
    · simp [hi]
    · simp [hi]
  rwa [h2] at h1

theorem str_inv : ∀ (F : Addr → Value → Prop) (S : Nat → Nat → Prop) (v : Value) (x : List UInt8), VR F S v (.s x) → v = encStr x := fun F S v x h => strKey.inv h
theorem str_av : ∀ (F : Addr → Value → Prop) (S : Nat → Nat → Prop) (x : List UInt8), VR F S (encStr x) (.s x) := fun F S x => .s _
theorem above_c (hS : SortsOrd X.P 23 encStr sortL) (t : Bool) (l : List Space) (hl : l.length ≤ 1000) (hC : ∀ s ∈ l, s.kids.length ≤ 10) (id : List UInt8) (H : AHeap) (Kc : AV → AHeap → Prop) (h : Kc (.sl false ((aboveL l id).map bytesCells)) H) :
    ACall X 14 [.sl t (l.map Space.cells), .s id] H Kc := by
  refine ACall.gr (e := 9) (sz := 1) h ?_
  clear h
  obtain ⟨hkn, hkm, hkl⟩ := keysE_ok l
  refine ACall_intro Try.func14 rfl (by kernel_rfl) (by rw [Try.ntmps14]; simp) ?_; rw [Try.ntmps14]; simp only [frame0, Nat.reduceAdd]
  refine AWp_seq_k (fun K hK => ?_); apply s_region
  apply s_box; decide; exact (by simp only [go_sem]; try rfl); exact (by simp only [go_sem]; try rfl); intro q hq
  (repeat' (first | (refine AWp_seq_k (fun K hK => ?_)) | (apply s_region) | (apply s_q; (first | decide | (dsimp only; decide)); rfl; (solve | (simp only [go_sem]; try rfl))) | (apply s_nil; try simp only [AThen, ABlock]; try (first | (refine hK _ _ ?_; clear hK K) | (clear hK K; refine hK _ _ ?_; clear hK K) | (clear hK K; clear hK K; refine hK _ _ ?_; clear hK K))) | (apply AWp_block) | (apply AWp_skip; try simp only [AThen, ABlock]; try (first | (refine hK _ _ ?_; clear hK K) | (clear hK K; refine hK _ _ ?_; clear hK K) | (clear hK K; clear hK K; refine hK _ _ ?_; clear hK K))) | (apply AWp_exit; simp only [AThen, ABlock, reduceIte, Nat.reduceEqDiff]; try (first | (refine hK _ _ ?_; clear hK K) | (clear hK K; refine hK _ _ ?_; clear hK K) | (clear hK K; clear hK K; refine hK _ _ ?_; clear hK K))) | (apply AWp_ret; try simp only [AThen, ABlock]; apply end_ret; rfl; try simp only [AFr.get, reduceIte, Nat.reduceEqDiff]) | (apply s_box; (first | decide | (dsimp only; decide)); (solve | (simp only [go_sem]; try rfl)); (solve | (simp only [go_sem]; try rfl)); intro b hb) | (apply s_lit; (first | decide | (dsimp only; decide)); exact el_37; (solve | (simp only [go_sem]; try rfl)); (solve | (simp only [go_sem]; try rfl)); decide) | (apply s_call; (first | decide | (dsimp only; decide)); (solve | (simp only [go_sem]; try rfl)); (solve | (simp only [go_sem]; try rfl)); apply index_c t l (by omega); intro m hm)))
  apply s_rangeM; decide; exact Try.underlying50; exact (by simp only [go_sem]; try rfl); exact AHeap.get_put_same _ _ _
  intro ents clock r hsz hr
  have hnk : ents.size = (keysE l).length := by rw [hsz]; simp [keysE]
  rw [AHeap.put_put]
  have hmq : m ≠ q := by rintro rfl; rw [AHeap.get_put_same] at hm; cases hm
  have hrm : r ≠ m := by rintro rfl; rw [AHeap.get_put_same] at hr; cases hr
  have hr2 : (H.put q (.box 9 [.s id])).get r = none := by rw [AHeap.get_put, if_neg hrm] at hr; exact hr
  have hHr : H.get r = none := none_of_ext (Ext.fresh hq) hr2
  have hHm : H.get m = none := none_of_ext (Ext.fresh hq) hm
  have hrq : r ≠ q := by rintro rfl; rw [AHeap.get_put_same] at hr2; cases hr2
  obtain ⟨km, hkmE⟩ : ∃ km, km = AObj.kmap ents clock ((idxE l).map fun p => .s p.1) ((idxE l).map (·.2)) := ⟨_, rfl⟩
  rw [← hkmE]
  have f1 : (((H.put q (.box 9 [.s id])).put m km).put r (.walk m ents clock [])).get q = some (.box 9 [.s id]) := by
    rw [AHeap.get_put, if_neg (Ne.symm hrq), AHeap.get_put, if_neg (Ne.symm hmq), AHeap.get_put_same]
  have f2 : (((H.put q (.box 9 [.s id])).put m km).put r (.walk m ents clock [])).get m = some km := by
    rw [AHeap.get_put, if_neg (Ne.symm hrm), AHeap.get_put_same]
  have f3 := AHeap.get_put_same r (.walk m ents clock []) ((H.put q (.box 9 [.s id])).put m km)
  have f4 : Ext H (((H.put q (.box 9 [.s id])).put m km).put r (.walk m ents clock [])) := ((Ext.fresh hq).over hHm).over hHr
  generalize ((H.put q (.box 9 [.s id])).put m km).put r (.walk m ents clock []) = G at f1 f2 f3 f4 ⊢
  (repeat' (first | (refine AWp_seq_k (fun K hK => ?_)) | (apply s_region) | (apply s_q; (first | decide | (dsimp only; decide)); rfl; (solve | (simp only [go_sem]; try rfl))) | (apply s_nil; try simp only [AThen, ABlock]; try (first | (refine hK _ _ ?_; clear hK K) | (clear hK K; refine hK _ _ ?_; clear hK K) | (clear hK K; clear hK K; refine hK _ _ ?_; clear hK K))) | (apply AWp_block) | (apply AWp_skip; try simp only [AThen, ABlock]; try (first | (refine hK _ _ ?_; clear hK K) | (clear hK K; refine hK _ _ ?_; clear hK K) | (clear hK K; clear hK K; refine hK _ _ ?_; clear hK K))) | (apply AWp_exit; simp only [AThen, ABlock, reduceIte, Nat.reduceEqDiff]; try (first | (refine hK _ _ ?_; clear hK K) | (clear hK K; refine hK _ _ ?_; clear hK K) | (clear hK K; clear hK K; refine hK _ _ ?_; clear hK K))) | (apply AWp_ret; try simp only [AThen, ABlock]; apply end_ret; rfl; try simp only [AFr.get, reduceIte, Nat.reduceEqDiff]) | (apply s_box; (first | decide | (dsimp only; decide)); (solve | (simp only [go_sem]; try rfl)); (solve | (simp only [go_sem]; try rfl)); intro b hb) | (apply s_lit; (first | decide | (dsimp only; decide)); exact el_37; (solve | (simp only [go_sem]; try rfl)); (solve | (simp only [go_sem]; try rfl)); decide)))
  refine AWp_loop_s (σ := List Nat × AV × AHeap) [3, 5, 10] (fun s => [ptrTo q, s.2.1, ptrTo r]) (fun s => s.2.2) (fun s => (keysE l).length - s.1.length)
    (fun s => s.1.Nodup ∧ (∀ i ∈ s.1, i < (keysE l).length) ∧ Ext H s.2.2 ∧ s.2.2.get q = some (.box 9 [.s id]) ∧ s.2.2.get m = some km ∧ s.2.2.get r = some (.walk m ents clock s.1) ∧ RowAt 9 1 H s.2.2 ((outsE l id s.1).map bytesCells) s.2.1)
    ([], .sl true [], G) ⟨.nil, by simp, f4, f1, f2, f3, RowAt.nil _ _ _ _⟩ rfl rfl (fun s hs => ?_)
  obtain ⟨is, o, L⟩ := s
  obtain ⟨hnd, hlt, hE, gq, gm, gr, hR⟩ := hs
  simp only [List.zip_cons_cons, List.zip_nil_right] at hnd hlt hE gq gm gr hR ⊢
  have hol : (outsE l id is).length ≤ 1000 := by
    have h1 := nodup_nat_le hnd hlt
    have h2 : (outsE l id is).length ≤ is.length := Nat.le_trans (List.length_filter_le _ _) (by simp)
    omega
  have gm2 := gm
  rw [hkmE] at gm2
  (repeat' (first | (refine AWp_seq_k (fun K hK => ?_)) | (apply s_region) | (apply s_q; (first | decide | (dsimp only; decide)); rfl; (solve | (simp only [go_sem]; try rfl))) | (apply s_nil; try simp only [AThen, ABlock]; try (first | (refine hK _ _ ?_; clear hK K) | (clear hK K; refine hK _ _ ?_; clear hK K) | (clear hK K; clear hK K; refine hK _ _ ?_; clear hK K))) | (apply AWp_block) | (apply AWp_skip; try simp only [AThen, ABlock]; try (first | (refine hK _ _ ?_; clear hK K) | (clear hK K; refine hK _ _ ?_; clear hK K) | (clear hK K; clear hK K; refine hK _ _ ?_; clear hK K))) | (apply AWp_exit; simp only [AThen, ABlock, reduceIte, Nat.reduceEqDiff]; try (first | (refine hK _ _ ?_; clear hK K) | (clear hK K; refine hK _ _ ?_; clear hK K) | (clear hK K; clear hK K; refine hK _ _ ?_; clear hK K))) | (apply AWp_ret; try simp only [AThen, ABlock]; apply end_ret; rfl; try simp only [AFr.get, reduceIte, Nat.reduceEqDiff]) | (apply s_box; (first | decide | (dsimp only; decide)); (solve | (simp only [go_sem]; try rfl)); (solve | (simp only [go_sem]; try rfl)); intro b hb) | (apply s_lit; (first | decide | (dsimp only; decide)); exact el_37; (solve | (simp only [go_sem]; try rfl)); (solve | (simp only [go_sem]; try rfl)); decide)))
  apply s_nextM; decide; exact (by simp only [go_sem]; try rfl); exact gr; exact gm2; exact (fun i hi => by rw [hnk]; exact hlt i hi)
  · intro hall
    rw [hnk] at hall
    have e := outs_all (id := id) hnd hlt hall
    (repeat' (first | (refine AWp_seq_k (fun K hK => ?_)) | (apply s_region) | (apply s_q; (first | decide | (dsimp only; decide)); rfl; (solve | (simp only [go_sem]; try rfl))) | (apply s_nil; try simp only [AThen, ABlock]; try (first | (refine hK _ _ ?_; clear hK K) | (clear hK K; refine hK _ _ ?_; clear hK K) | (clear hK K; clear hK K; refine hK _ _ ?_; clear hK K))) | (apply AWp_block) | (apply AWp_skip; try simp only [AThen, ABlock]; try (first | (refine hK _ _ ?_; clear hK K) | (clear hK K; refine hK _ _ ?_; clear hK K) | (clear hK K; clear hK K; refine hK _ _ ?_; clear hK K))) | (apply AWp_exit; simp only [AThen, ABlock, reduceIte, Nat.reduceEqDiff]; try (first | (refine hK _ _ ?_; clear hK K) | (clear hK K; refine hK _ _ ?_; clear hK K) | (clear hK K; clear hK K; refine hK _ _ ?_; clear hK K))) | (apply AWp_ret; try simp only [AThen, ABlock]; apply end_ret; rfl; try simp only [AFr.get, reduceIte, Nat.reduceEqDiff]) | (apply s_box; (first | decide | (dsimp only; decide)); (solve | (simp only [go_sem]; try rfl)); (solve | (simp only [go_sem]; try rfl)); intro b hb) | (apply s_lit; (first | decide | (dsimp only; decide)); exact el_37; (solve | (simp only [go_sem]; try rfl)); (solve | (simp only [go_sem]; try rfl)); decide)))
    refine cond_split (by simp only [go_sem]; try rfl) (fun hz => ?_) (fun hz => ?_)
    · cases hz
    (repeat' (first | (refine AWp_seq_k (fun K hK => ?_)) | (apply s_region) | (apply s_q; (first | decide | (dsimp only; decide)); rfl; (solve | (simp only [go_sem]; try rfl))) | (apply s_nil; try simp only [AThen, ABlock]; try (first | (refine hK _ _ ?_; clear hK K) | (clear hK K; refine hK _ _ ?_; clear hK K) | (clear hK K; clear hK K; refine hK _ _ ?_; clear hK K))) | (apply AWp_block) | (apply AWp_skip; try simp only [AThen, ABlock]; try (first | (refine hK _ _ ?_; clear hK K) | (clear hK K; refine hK _ _ ?_; clear hK K) | (clear hK K; clear hK K; refine hK _ _ ?_; clear hK K))) | (apply AWp_exit; simp only [AThen, ABlock, reduceIte, Nat.reduceEqDiff]; try (first | (refine hK _ _ ?_; clear hK K) | (clear hK K; refine hK _ _ ?_; clear hK K) | (clear hK K; clear hK K; refine hK _ _ ?_; clear hK K))) | (apply AWp_ret; try simp only [AThen, ABlock]; apply end_ret; rfl; try simp only [AFr.get, reduceIte, Nat.reduceEqDiff]) | (apply s_box; (first | decide | (dsimp only; decide)); (solve | (simp only [go_sem]; try rfl)); (solve | (simp only [go_sem]; try rfl)); intro b hb) | (apply s_lit; (first | decide | (dsimp only; decide)); exact el_37; (solve | (simp only [go_sem]; try rfl)); (solve | (simp only [go_sem]; try rfl)); decide) | (apply s_call; (first | decide | (dsimp only; decide)); (solve | (simp only [go_sem]; try rfl)); (solve | (simp only [go_sem]; try rfl)); apply ACall_ord (ss := outsE l id is) hS (by kernel_rfl) str_av str_inv (sortL_length _) hE hR (by omega); intro L2 hR2 hE2 hK2)))
    rw [e] at hR2
    exact hR2.toGr hE2
  · intro i k x hni hk hx
    rw [List.getElem?_map, Option.map_eq_some_iff] at hk hx
    obtain ⟨p, hp, rfl⟩ := hk
    obtain ⟨p2, hp2, rfl⟩ := hx
    rw [hp] at hp2; cases hp2
    obtain ⟨k, a⟩ := p
    have ea := idxE_at hp
    subst ea
    simp only
    have hil : i < (keysE l).length := by
      have := (List.getElem?_eq_some_iff.1 hp).1
      simpa [keysE] using this
    have hki : (keysE l).getD i [] = k := by simp [keysE, hp]
    have kq : (L.put r (.walk m ents clock (is ++ [i]))).get q = some (.box 9 [.s id]) := by rw [AHeap.get_put, if_neg (Ne.symm hrq)]; exact gq
    have km1 : (L.put r (.walk m ents clock (is ++ [i]))).get m = some km := by rw [AHeap.get_put, if_neg (Ne.symm hrm)]; exact gm
    have km2 := km1
    rw [hkmE] at km2
    have kr := AHeap.get_put_same r (.walk m ents clock (is ++ [i])) L
    have kE := hE.over (o := .walk m ents clock (is ++ [i])) hHr
    have kR := hR.put gr (fun _ _ _ h => by cases h) (o' := .walk m ents clock (is ++ [i]))
    generalize L.put r (.walk m ents clock (is ++ [i])) = M at kq km1 km2 kr kE kR ⊢
    have hnd2 : (is ++ [i]).Nodup := List.nodup_append.2 ⟨hnd, by simp, fun a ha b hb => by simp at hb; subst hb; rintro rfl; exact hni ha⟩
    have hlt2 : ∀ j ∈ is ++ [i], j < (keysE l).length := fun j hj => by
      rcases List.mem_append.1 hj with h | h
      · exact hlt j h
      · simp at h; subst h; exact hil
    have hlen2 := nodup_nat_le hnd2 hlt2
    have hkl2 := kids_len (k := k) hC
    (repeat' (first | (refine AWp_seq_k (fun K hK => ?_)) | (apply s_region) | (apply s_q; (first | decide | (dsimp only; decide)); rfl; (solve | (simp only [go_sem]; try rfl))) | (apply s_nil; try simp only [AThen, ABlock]; try (first | (refine hK _ _ ?_; clear hK K) | (clear hK K; refine hK _ _ ?_; clear hK K) | (clear hK K; clear hK K; refine hK _ _ ?_; clear hK K))) | (apply AWp_block) | (apply AWp_skip; try simp only [AThen, ABlock]; try (first | (refine hK _ _ ?_; clear hK K) | (clear hK K; refine hK _ _ ?_; clear hK K) | (clear hK K; clear hK K; refine hK _ _ ?_; clear hK K))) | (apply AWp_exit; simp only [AThen, ABlock, reduceIte, Nat.reduceEqDiff]; try (first | (refine hK _ _ ?_; clear hK K) | (clear hK K; refine hK _ _ ?_; clear hK K) | (clear hK K; clear hK K; refine hK _ _ ?_; clear hK K))) | (apply AWp_ret; try simp only [AThen, ABlock]; apply end_ret; rfl; try simp only [AFr.get, reduceIte, Nat.reduceEqDiff]) | (apply s_box; (first | decide | (dsimp only; decide)); (solve | (simp only [go_sem]; try rfl)); (solve | (simp only [go_sem]; try rfl)); intro b hb) | (apply s_lit; (first | decide | (dsimp only; decide)); exact el_37; (solve | (simp only [go_sem]; try rfl)); (solve | (simp only [go_sem]; try rfl)); decide)))
    refine cond_split (by simp only [go_sem]; try rfl) (fun hz => ?_) (fun hz => ?_)
    rotate_left
    · cases hz
    (repeat' (first | (refine AWp_seq_k (fun K hK => ?_)) | (apply s_region) | (apply s_q; (first | decide | (dsimp only; decide)); rfl; (solve | (simp only [go_sem]; try rfl))) | (apply s_nil; try simp only [AThen, ABlock]; try (first | (refine hK _ _ ?_; clear hK K) | (clear hK K; refine hK _ _ ?_; clear hK K) | (clear hK K; clear hK K; refine hK _ _ ?_; clear hK K))) | (apply AWp_block) | (apply AWp_skip; try simp only [AThen, ABlock]; try (first | (refine hK _ _ ?_; clear hK K) | (clear hK K; refine hK _ _ ?_; clear hK K) | (clear hK K; clear hK K; refine hK _ _ ?_; clear hK K))) | (apply AWp_exit; simp only [AThen, ABlock, reduceIte, Nat.reduceEqDiff]; try (first | (refine hK _ _ ?_; clear hK K) | (clear hK K; refine hK _ _ ?_; clear hK K) | (clear hK K; clear hK K; refine hK _ _ ?_; clear hK K))) | (apply AWp_ret; try simp only [AThen, ABlock]; apply end_ret; rfl; try simp only [AFr.get, reduceIte, Nat.reduceEqDiff]) | (apply s_box; (first | decide | (dsimp only; decide)); (solve | (simp only [go_sem]; try rfl)); (solve | (simp only [go_sem]; try rfl)); intro b hb) | (apply s_lit; (first | decide | (dsimp only; decide)); exact el_37; (solve | (simp only [go_sem]; try rfl)); (solve | (simp only [go_sem]; try rfl)); decide)))
    apply s_entryM; decide; exact (by simp only [go_sem]; try rfl); exact kr; exact km2; (rw [List.getElem?_map, hp]; rfl); (rw [List.getElem?_map, hp]; rfl)
    (repeat' (first | (refine AWp_seq_k (fun K hK => ?_)) | (apply s_region) | (apply s_q; (first | decide | (dsimp only; decide)); rfl; (solve | (simp only [go_sem]; try rfl))) | (apply s_nil; try simp only [AThen, ABlock]; try (first | (refine hK _ _ ?_; clear hK K) | (clear hK K; refine hK _ _ ?_; clear hK K) | (clear hK K; clear hK K; refine hK _ _ ?_; clear hK K))) | (apply AWp_block) | (apply AWp_skip; try simp only [AThen, ABlock]; try (first | (refine hK _ _ ?_; clear hK K) | (clear hK K; refine hK _ _ ?_; clear hK K) | (clear hK K; clear hK K; refine hK _ _ ?_; clear hK K))) | (apply AWp_exit; simp only [AThen, ABlock, reduceIte, Nat.reduceEqDiff]; try (first | (refine hK _ _ ?_; clear hK K) | (clear hK K; refine hK _ _ ?_; clear hK K) | (clear hK K; clear hK K; refine hK _ _ ?_; clear hK K))) | (apply AWp_ret; try simp only [AThen, ABlock]; apply end_ret; rfl; try simp only [AFr.get, reduceIte, Nat.reduceEqDiff]) | (apply s_box; (first | decide | (dsimp only; decide)); (solve | (simp only [go_sem]; try rfl)); (solve | (simp only [go_sem]; try rfl)); intro b hb) | (apply s_lit; (first | decide | (dsimp only; decide)); exact el_37; (solve | (simp only [go_sem]; try rfl)); (solve | (simp only [go_sem]; try rfl)); decide) | (apply s_call; (first | decide | (dsimp only; decide)); (solve | (simp only [go_sem]; try rfl)); (solve | (simp only [go_sem]; try rfl)); apply hasChild_c id q false (kidsOf l k) (by omega) _ kq)))
    refine cond_split (by simp only [go_sem]; try rfl) (fun hw => ?_) (fun hw => ?_)
    · have eo : outsE l id (is ++ [i]) = outsE l id is ++ [k] := by
        unfold outsE
        rw [List.map_append, List.filter_append, List.map_singleton, hki]
        simp [hasKid, hw]
      (repeat' (first | (refine AWp_seq_k (fun K hK => ?_)) | (apply s_region) | (apply s_q; (first | decide | (dsimp only; decide)); rfl; (solve | (simp only [go_sem]; try rfl))) | (apply s_nil; try simp only [AThen, ABlock]; try (first | (refine hK _ _ ?_; clear hK K) | (clear hK K; refine hK _ _ ?_; clear hK K) | (clear hK K; clear hK K; refine hK _ _ ?_; clear hK K))) | (apply AWp_block) | (apply AWp_skip; try simp only [AThen, ABlock]; try (first | (refine hK _ _ ?_; clear hK K) | (clear hK K; refine hK _ _ ?_; clear hK K) | (clear hK K; clear hK K; refine hK _ _ ?_; clear hK K))) | (apply AWp_exit; simp only [AThen, ABlock, reduceIte, Nat.reduceEqDiff]; try (first | (refine hK _ _ ?_; clear hK K) | (clear hK K; refine hK _ _ ?_; clear hK K) | (clear hK K; clear hK K; refine hK _ _ ?_; clear hK K))) | (apply AWp_ret; try simp only [AThen, ABlock]; apply end_ret; rfl; try simp only [AFr.get, reduceIte, Nat.reduceEqDiff]) | (apply s_box; (first | decide | (dsimp only; decide)); (solve | (simp only [go_sem]; try rfl)); (solve | (simp only [go_sem]; try rfl)); intro b hb) | (apply s_lit; (first | decide | (dsimp only; decide)); exact el_37; (solve | (simp only [go_sem]; try rfl)); (solve | (simp only [go_sem]; try rfl)); decide) | (apply s_append; (first | decide | (dsimp only; decide)); (solve | (simp only [go_sem]; try rfl)); (solve | (simp only [go_sem]; try rfl)); apply AApp_at el_37 kE kR (l := outsE l id is) (m := [k]) (g := bytesCells) rfl rfl tk_37 (fun _ => ⟨rfl, rfl⟩) (by simp; omega) (by simp; omega); intro o2 M2 hR2 hE2 hK2)))
      refine ⟨(is ++ [i], o2, M2), ?_, ⟨hnd2, hlt2, hE2, hK2 q _ kq (fun _ _ _ h => by cases h), hK2 m _ km1 (fun _ _ _ h => by rw [hkmE] at h; cases h), hK2 r _ kr (fun _ _ _ h => by cases h), by simp only; rw [eo]; exact hR2⟩, by trivial, by trivial⟩
      simp only [List.length_append, List.length_cons, List.length_nil] at hlen2 ⊢
      omega
    · have eo : outsE l id (is ++ [i]) = outsE l id is := by
        unfold outsE
        rw [List.map_append, List.filter_append, List.map_singleton, hki]
        simp [hasKid, hw]
      (repeat' (first | (refine AWp_seq_k (fun K hK => ?_)) | (apply s_region) | (apply s_q; (first | decide | (dsimp only; decide)); rfl; (solve | (simp only [go_sem]; try rfl))) | (apply s_nil; try simp only [AThen, ABlock]; try (first | (refine hK _ _ ?_; clear hK K) | (clear hK K; refine hK _ _ ?_; clear hK K) | (clear hK K; clear hK K; refine hK _ _ ?_; clear hK K))) | (apply AWp_block) | (apply AWp_skip; try simp only [AThen, ABlock]; try (first | (refine hK _ _ ?_; clear hK K) | (clear hK K; refine hK _ _ ?_; clear hK K) | (clear hK K; clear hK K; refine hK _ _ ?_; clear hK K))) | (apply AWp_exit; simp only [AThen, ABlock, reduceIte, Nat.reduceEqDiff]; try (first | (refine hK _ _ ?_; clear hK K) | (clear hK K; refine hK _ _ ?_; clear hK K) | (clear hK K; clear hK K; refine hK _ _ ?_; clear hK K))) | (apply AWp_ret; try simp only [AThen, ABlock]; apply end_ret; rfl; try simp only [AFr.get, reduceIte, Nat.reduceEqDiff]) | (apply s_box; (first | decide | (dsimp only; decide)); (solve | (simp only [go_sem]; try rfl)); (solve | (simp only [go_sem]; try rfl)); intro b hb) | (apply s_lit; (first | decide | (dsimp only; decide)); exact el_37; (solve | (simp only [go_sem]; try rfl)); (solve | (simp only [go_sem]; try rfl)); decide)))
      refine ⟨(is ++ [i], o, M), ?_, ⟨hnd2, hlt2, kE, kq, km1, kr, by simp only; rw [eo]; exact kR⟩, by trivial, by trivial⟩
      simp only [List.length_append, List.length_cons, List.length_nil] at hlen2 ⊢
      omega
end Go.Proofs.Ytloobmklfjhfpaa
