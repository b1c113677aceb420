/-
  The law that by power each place is heard once, behind all that it leans on. Contract.
-/
import Derived.Test.YtcpfgjfiacfmoaaGreatDoorGPart9
import Derived.Test.YtcpfgjfiacfmoaaGreatDoorGO9Y
set_option linter.unusedSimpArgs false
set_option linter.unusedVariables false
set_option maxRecDepth 100000
namespace Go.Proofs.YtcpfgjfiacfmoaaGreatDoor
open Go Go.AL
attribute [local irreducible] AOps AWp SOps AE AT ACall AApp

theorem reach_below {au : List (List Int)} (hb : Below au) {x k : Int} (h : Reach au [x] k) : k < x := by
  induction h with
  | base h1 h2 h3 =>
    have := hb _ _ h2 _ h3
    simp at h1
    omega
  | step h1 h2 h3 ih =>
    have := hb _ _ h2 _ h3
    omega
theorem parL_mem {p : Pa} {ls : List Int} {x : Int} {k : Nat} : k ∈ parL p ls x ↔ k < ls.length ∧ ls.getD k 0 ∈ chainL p.auth [x] := by
  rw [parL, List.mem_filter, List.mem_range, decide_eq_true_iff]
theorem powP_at {p : Pa} {ls : List Int} {j : Nat} : (powP p ls).getD j [] = if j < ls.length then ofN (parL p ls (ls.getD j 0)) else [] := by
  rw [powP, List.getD_eq_getElem?_getD, List.getElem?_map]
  split
  · rename_i h
    rw [List.getElem?_eq_getElem h, List.getD_eq_getElem?_getD, List.getElem?_eq_getElem h]
    rfl
  · rename_i h
    rw [List.getElem?_eq_none (by omega)]
    rfl
theorem rising_at {ls : List Int} (h : ls.Pairwise (· < ·)) {i j : Nat} (hi : i < ls.length) (hj : j < ls.length) (hl : ls.getD i 0 < ls.getD j 0) : i < j := by
  rw [List.getD_eq_getElem?_getD, List.getElem?_eq_getElem hi, List.getD_eq_getElem?_getD, List.getElem?_eq_getElem hj] at hl
  simp only [Option.getD_some] at hl
  rcases Nat.lt_trichotomy i j with h1 | h1 | h1
  · exact h1
  · subst h1; omega
  · have := List.pairwise_iff_getElem.1 h j i hj hi h1
    omega
theorem powO_behind {p : Pa} (hr : p.Right) {ls : List Int} (hls : ls.Pairwise (· < ·)) : (∀ x, x ∈ powO p ls ↔ x ∈ ls) ∧ (powO p ls).Nodup ∧ ∀ (i k : Nat) (x y : Int), i ≤ k → (powO p ls)[i]? = some x → (powO p ls)[k]? = some y → y ∉ chainL p.auth [x] := by
  have hB := below_of hr
  have hPn := powP_len p ls
  obtain ⟨out, ho, hol, hL⟩ := refL_ever (P := powP p ls) (R := powR p ls) (by rw [hPn, powR, List.length_map]) (fun j x hx => by
    rw [powP_at] at hx
    split at hx
    · rename_i hj
      obtain ⟨k, hk, rfl⟩ := List.mem_map.1 hx
      obtain ⟨h1, h2⟩ := parL_mem.1 hk
      have := reach_below hB ((chain_mem hB).1 h2)
      have := rising_at hls h1 hj this
      show (0 : Int) ≤ (k : Nat) ∧ ((k : Nat) : Int) < j
      omega
    · cases hx)
  rw [hPn] at hol hL
  have hO : powO p ls = out.map fun k => ls.getD k 0 := by
    rw [powO, ho, Option.getD_some, ofN, List.map_map]
    rfl
  have hnd := hL.nodup
  have hat : ∀ (i : Nat) (x : Int), (powO p ls)[i]? = some x → ∃ k, out[i]? = some k ∧ k < ls.length ∧ x = ls.getD k 0 := fun i x hx => by
    rw [hO, List.getElem?_map] at hx
    cases hk : out[i]? with
    | none => rw [hk] at hx; cases hx
    | some k =>
      rw [hk] at hx
      cases hx
      exact ⟨k, rfl, (hL i k hk).1, rfl⟩
  have hinj : ∀ a b : Nat, a < ls.length → b < ls.length → ls.getD a 0 = ls.getD b 0 → a = b := fun a b ha hb he => by
    rcases Nat.lt_trichotomy a b with h | h | h
    · have := List.pairwise_iff_getElem.1 hls a b ha hb h
      rw [List.getD_eq_getElem?_getD, List.getElem?_eq_getElem ha, List.getD_eq_getElem?_getD, List.getElem?_eq_getElem hb] at he
      simp only [Option.getD_some] at he
      omega
    · exact h
    · have := List.pairwise_iff_getElem.1 hls b a hb ha h
      rw [List.getD_eq_getElem?_getD, List.getElem?_eq_getElem ha, List.getD_eq_getElem?_getD, List.getElem?_eq_getElem hb] at he
      simp only [Option.getD_some] at he
      omega
  refine ⟨fun x => ⟨fun hx => ?_, fun hx => ?_⟩, ?_, fun i k x y hik hx hy hin => ?_⟩
  · obtain ⟨i, hi⟩ := List.getElem?_of_mem hx
    obtain ⟨k, _, hk, rfl⟩ := hat i x hi
    rw [List.getD_eq_getElem?_getD, List.getElem?_eq_getElem hk]
    exact List.getElem_mem hk
  · obtain ⟨i, hi⟩ := List.getElem?_of_mem hx
    have hil := (List.getElem?_eq_some_iff.1 hi).1
    obtain ⟨m, hm⟩ := hL.all hol hil
    rw [hO, List.mem_map]
    exact ⟨i, List.mem_of_getElem? hm, by rw [getD_some hi]⟩
  · rw [List.nodup_iff_pairwise_ne, List.pairwise_iff_getElem]
    intro i j hi hj hij he
    obtain ⟨a, ha, hal, hax⟩ := hat i _ (List.getElem?_eq_getElem hi)
    obtain ⟨c, hc, hcl, hcx⟩ := hat j _ (List.getElem?_eq_getElem hj)
    have := hinj a c hal hcl (by rw [← hax, ← hcx, he])
    subst this
    obtain ⟨h1, h2⟩ := List.getElem?_eq_some_iff.1 ha
    obtain ⟨h3, h4⟩ := List.getElem?_eq_some_iff.1 hc
    exact List.pairwise_iff_getElem.1 (List.nodup_iff_pairwise_ne.1 hnd) i j h1 h3 hij (by rw [h2, h4])
  · obtain ⟨a, ha, hal, rfl⟩ := hat i x hx
    obtain ⟨c, hc, hcl, rfl⟩ := hat k y hy
    have hrd := (hL i a ha).2.1.2
    rw [rdy, List.all_eq_true, List.nil_append, powP_at, if_pos hal] at hrd
    have := hrd (c : Nat) (mem_ofN.2 (parL_mem.2 ⟨hcl, hin⟩))
    rw [decide_eq_true_iff, mem_ofN] at this
    obtain ⟨m, hm, he⟩ := List.mem_take_iff_getElem.1 this
    obtain ⟨h3, h4⟩ := List.getElem?_eq_some_iff.1 hc
    refine List.pairwise_iff_getElem.1 (List.nodup_iff_pairwise_ne.1 hnd) m k (by omega) h3 (by omega) (by rw [he, h4])
theorem powA_behind {p : Pa} (hr : rightB p = true) (l : List Int) : (∀ x, x ∈ powA p l ↔ x ∈ l ∧ 0 ≤ x ∧ x < p.events.length) ∧ (powA p l).Nodup ∧ ∀ (i k : Nat) (x y : Int), i ≤ k → (powA p l)[i]? = some x → (powA p l)[k]? = some y → y ∉ chainP p [x] := by
  obtain ⟨h1, h2, h3⟩ := powO_behind (right_true hr) (setL_lt p.events.length l)
  rw [powA, if_pos hr]
  refine ⟨fun x => by rw [h1, setL_mem], h2, fun i k x y => ?_⟩
  rw [chainP, if_pos hr]
  exact h3 i k x y
set_option maxHeartbeats 4000000 in
theorem law_behind (p : Pa) (hw : p.Wide) (t : Bool) (l : List Int) (hl : l.length ≤ 4611686018427387904) (H : AHeap) (K : AV → AHeap → Prop) (h : K (.v (.bool true)) H) : ACall X 8 [.agg p.cells, .sl t (l.map intCells)] H K := by
  have hF : ∀ (H : AHeap) (K : AV → AHeap → Prop), (∀ b, (b = true → p.Few) → K (.v (.bool b)) H) → ACall X 15 [.agg (pCells p)] H K := fun H K hk => few12_c p hw H K hk
  refine ACall.drop ?_
  rw [show p.cells = pCells p from rfl]
  refine ACall_intro Tryz.func8 rfl (by kernel_rfl) (by rw [Tryz.ntmps8]; simp) ?_; rw [Tryz.ntmps8]; simp only [frame0, Nat.reduceAdd]
  refine AWp_seq_k (fun K hK => ?_); apply s_region
  apply s_box; decide; exact (by simp only [go_sem]; try rfl); exact (by simp only [go_sem]; try rfl); intro q hq
  generalize hgenq : AHeap.put q _ H = M; obtain ⟨g1, hextq⟩ := gen_ex hgenq hq; have hE := hextq; clear hextq hgenq
  (apply s_q; decide; rfl; (simp only [go_sem, g1]; rfl); apply s_nil; simp only [AThen, ABlock]; refine hK _ _ ?_; clear hK K; (iterate 2 (refine AWp_seq_k (fun K hK => ?_))); apply s_region; apply s_q; decide; rfl; (simp only [go_sem, g1]; rfl); apply s_call; decide; (simp only [go_sem, g1]; rfl); (simp only [go_sem, g1]; rfl); apply hF; intro b hb; (iterate 2 (apply s_q; decide; rfl; (simp only [go_sem, g1]; rfl))); apply s_spec; decide; rfl; rfl; (simp only [go_sem, g1]; rfl); (simp only [go_sem, g1]; rfl); (simp only [go_sem, g1]; rfl); (simp only [go_sem, g1]; rfl); trivial; (iterate 2 (apply s_spec; decide; rfl; rfl; (simp only [go_sem, g1]; rfl); (simp only [go_sem, g1]; rfl); (simp only [go_sem, g1]; rfl); (simp only [go_sem, g1]; rfl); simp [condsOk])); apply s_pick; decide; (simp only [go_sem, g1]; rfl); (simp only [go_sem, g1]; rfl); (simp only [go_sem, g1]; rfl); (simp only [go_sem, g1]; rfl); (simp only [go_sem, g1]; rfl); (simp only [go_sem, g1]; rfl); trivial; trivial; simp [condsOk]; apply s_nil; simp only [AThen, ABlock]; refine hK _ _ ?_; clear hK K)
  refine cond_split (by simp only [go_sem]; try rfl) (fun hc => ?_) (fun hc => ?_)
  · (refine AWp_seq_k (fun K hK => ?_); apply s_region; apply s_q; decide; rfl; (simp only [go_sem]; rfl); apply s_nil; simp only [AThen, ABlock]; refine hK _ _ ?_; clear hK K; apply AWp_ret; simp only [AThen, ABlock]; apply end_ret; rfl; simp only [AFr.get, reduceIte, Nat.reduceEqDiff])
    exact ⟨H, hE, h⟩
  have hfl : p.Few ∧ l.length ≤ 50 := by cases b <;> simp at hc hb <;> exact ⟨hb, by omega⟩
  obtain ⟨hf, hl50⟩ := hfl
  have hev := hf.ev
  have h1 : ∀ (H : AHeap) (K : AV → AHeap → Prop), K (.sl false ((powA p l).map intCells)) H → ACall X 19 [.agg (pCells p), .sl t (l.map intCells)] H K := fun H K hk => byPower_c p hw hf.sml (by omega) t l (by omega) H K hk
  have h3 : ∀ (H : AHeap) (K : AV → AHeap → Prop), K (.v (.bool (rightB p))) H → ACall X 25 [.agg (pCells p)] H K := fun H K hk => right_c p hw H K hk
  have hpl := powA_short p l hev
  (apply AWp_skip; simp only [AThen, ABlock]; refine hK _ _ ?_; clear hK K; refine AWp_seq_k (fun K hK => ?_); apply s_region; (iterate 2 (apply s_q; decide; rfl; (simp only [go_sem, g1]; rfl))); apply s_call; decide; (simp only [go_sem, g1]; rfl); (simp only [go_sem, g1]; rfl); apply h1; apply s_q; decide; rfl; (simp only [go_sem, g1]; rfl); apply s_nil; simp only [AThen, ABlock]; refine hK _ _ ?_; clear hK K; (iterate 2 (refine AWp_seq_k (fun K hK => ?_))); apply s_region; apply s_q; decide; rfl; (simp only [go_sem, g1]; rfl); apply s_call; decide; (simp only [go_sem, g1]; rfl); (simp only [go_sem, g1]; rfl); apply h3; apply s_q; decide; rfl; (simp only [go_sem, g1]; rfl); apply s_nil; simp only [AThen, ABlock]; refine hK _ _ ?_; clear hK K)
  refine cond_split (by simp only [go_sem]; try rfl) (fun hd => ?_) (fun hd => ?_)
  · have hr : rightB p = false := by simpa using hd
    have he : powA p l = [] := by rw [powA, hr]; rfl
    rw [he]
    (refine AWp_seq_k (fun K hK => ?_); apply s_region; (iterate 4 (apply s_q; decide; rfl; (simp only [go_sem]; rfl))); apply s_gpure; decide; (simp only [go_sem]; rfl); (simp only [go_sem]; rfl); (simp only [go_sem]; rfl); trivial; (simp only [go_sem]; rfl); (simp only [go_sem]; rfl); (apply awake_c; exact ⟨rfl, rfl⟩); apply s_pick; decide; (simp only [go_sem]; rfl); (simp only [go_sem]; rfl); (simp only [go_sem]; rfl); (simp only [go_sem]; rfl); (simp only [go_sem]; rfl); (simp only [go_sem]; rfl); trivial; trivial; trivial; apply s_q; decide; rfl; (simp only [go_sem]; rfl); apply s_nil; simp only [AThen, ABlock]; refine hK _ _ ?_; clear hK K; apply AWp_ret; simp only [AThen, ABlock]; apply end_ret; rfl; simp only [AFr.get, reduceIte, Nat.reduceEqDiff])
    exact ⟨H, hE, h⟩
  have hr : rightB p = true := by simpa using hd
  obtain ⟨k1, k2, k3⟩ := powA_behind hr l
  generalize powA p l = o at k1 k2 k3 hpl
  have hI : ∀ (x : Int) (H : AHeap) (K : AV → AHeap → Prop), K (.v (.bool (decide (x ∈ o)))) H → ACall X 29 [.v (.int .i64 x), .sl false (o.map intCells)] H K := fun x H K hk => in_c x false o (by omega) H K hk
  have hIl : ∀ (x : Int) (H : AHeap) (K : AV → AHeap → Prop), K (.v (.bool (decide (x ∈ l)))) H → ACall X 29 [.v (.int .i64 x), .sl t (l.map intCells)] H K := fun x H K hk => in_c x t l hl H K hk
  (apply AWp_skip; simp only [AThen, ABlock]; refine hK _ _ ?_; clear hK K; (iterate 2 (refine AWp_seq_k (fun K hK => ?_))); apply s_region; apply s_q; decide; rfl; (simp only [go_sem]; rfl); apply s_nil; simp only [AThen, ABlock]; refine hK _ _ ?_; clear hK K; apply AWp_block)
  refine AWp_loop_s (σ := Nat) [1, 2, 5, 6] (fun i => [.sl t (l.map intCells), ptrTo q, .sl false (o.map intCells), .v (.int .i64 (i : Nat))]) (fun _ => M) (fun i => l.length - i) (fun i => i ≤ l.length) 0 (Nat.zero_le _) rfl rfl (fun i hi => ?_)
  simp only [List.zip_cons_cons, List.zip_nil_right]
  ((iterate 2 (refine AWp_seq_k (fun K hK => ?_))); apply s_region; (iterate 4 (apply s_q; decide; rfl; (simp only [go_sem]; rfl))); apply s_nil; simp only [AThen, ABlock]; refine hK _ _ ?_; clear hK K)
  refine cond_split (by simp only [go_sem]; try rfl) (fun hz => ?_) (fun hz => ?_)
  · have hlt : i < l.length := by simpa using hz
    obtain ⟨x, hx⟩ := gete hlt
    have hgx := int_at hx
    have hxl := List.mem_of_getElem? hx
    (apply AWp_skip; simp only [AThen, ABlock]; refine hK _ _ ?_; clear hK K; refine AWp_seq_k (fun K hK => ?_); apply AWp_block; refine AWp_seq_k (fun K hK => ?_))
    apply AWp_drawA [0, 1, 2, 3, 4, 5, 6, 7, 8, 9, 10, 11, 12, 13, 14, 15, 16, 17, 18, 19, 20, 21, 22, 23] [] 0 (by exact mixed); kernel_rfl; (simp only [go_sem]; rfl); (simp only [go_sem]; rfl)
    ((iterate 6 (apply e_q; decide; (simp only [go_sem, g1, hgx]; rfl))); (iterate 2 (apply e_spec; decide; (simp only [go_sem, g1, hgx]; rfl); (simp only [go_sem, g1, hgx]; rfl); (simp only [go_sem, g1, hgx]; rfl); (simp only [go_sem, g1, hgx]; rfl); trivial)); (iterate 2 (apply e_spec; decide; (simp only [go_sem, g1, hgx]; rfl); (simp only [go_sem, g1, hgx]; rfl); (simp only [go_sem, g1, hgx]; rfl); (simp only [go_sem, g1, hgx]; rfl); simp [condsOk])); apply e_spec; decide; (simp only [go_sem, g1, hgx]; rfl); (simp only [go_sem, g1, hgx]; rfl); (simp only [go_sem, g1, hgx]; rfl); (simp only [go_sem, g1, hgx]; rfl); trivial; (iterate 3 (apply e_spec; decide; (simp only [go_sem, g1, hgx]; rfl); (simp only [go_sem, g1, hgx]; rfl); (simp only [go_sem, g1, hgx]; rfl); (simp only [go_sem, g1, hgx]; rfl); simp [condsOk])); apply e_pick; decide; (simp only [go_sem, g1, hgx]; rfl); (simp only [go_sem, g1, hgx]; rfl); (simp only [go_sem, g1, hgx]; rfl); (simp only [go_sem, g1, hgx]; rfl); (simp only [go_sem, g1, hgx]; rfl); (simp only [go_sem, g1, hgx]; rfl); trivial; simp [condsOk]; trivial; apply e_q; decide; (simp only [go_sem, g1, hgx]; rfl); (iterate 2 (apply e_spec; decide; (simp only [go_sem, g1, hgx]; rfl); (simp only [go_sem, g1, hgx]; rfl); (simp only [go_sem, g1, hgx]; rfl); (simp only [go_sem, g1, hgx]; rfl); trivial)); (iterate 2 (apply e_spec; decide; (simp only [go_sem, g1, hgx]; rfl); (simp only [go_sem, g1, hgx]; rfl); (simp only [go_sem, g1, hgx]; rfl); (simp only [go_sem, g1, hgx]; rfl); simp [condsOk])); apply e_spec; decide; (simp only [go_sem, g1, hgx]; rfl); (simp only [go_sem, g1, hgx]; rfl); (simp only [go_sem, g1, hgx]; rfl); (simp only [go_sem, g1, hgx]; rfl); trivial; apply e_gpure; decide; (simp only [go_sem, g1, hgx]; rfl); (simp only [go_sem, g1, hgx]; rfl); (simp only [go_sem, g1, hgx]; rfl); simp [condsOk]; (simp only [go_sem, g1, hgx]; rfl); (simp only [go_sem, g1, hgx]; rfl); (apply hI; exact ⟨rfl, rfl⟩); apply e_spec; decide; (simp only [go_sem, g1, hgx]; rfl); (simp only [go_sem, g1, hgx]; rfl); (simp only [go_sem, g1, hgx]; rfl); (simp only [go_sem, g1, hgx]; rfl); simp [condsOk]; apply e_pick; decide; (simp only [go_sem, g1, hgx]; rfl); (simp only [go_sem, g1, hgx]; rfl); (simp only [go_sem, g1, hgx]; rfl); (simp only [go_sem, g1, hgx]; rfl); (simp only [go_sem, g1, hgx]; rfl); (simp only [go_sem, g1, hgx]; rfl); trivial; simp [condsOk]; trivial; apply e_nil; apply t_nil; simp only [AThen, ABlock]; refine hK _ _ ?_; clear hK K)
    refine cond_split (by simp only [go_sem]; try rfl) (fun hb2 => ?_) (fun hb2 => ?_)
    · exfalso
      have := k1 x
      simp at hb2
      exact hb2.2 (this.2 ⟨hxl, by omega⟩)
    (apply AWp_skip; simp only [AThen, ABlock]; refine hK _ _ ?_; clear hK K; apply s_region; (iterate 3 (apply s_q; decide; rfl; (simp only [go_sem]; rfl))); apply s_nil; simp only [AThen, ABlock])
    refine ⟨i + 1, by omega, by omega, ?_, by trivial⟩
    simp only [getAll, List.map_cons, List.map_nil, AFr.get, reduceIte, Nat.reduceEqDiff]
    rw [wrapS hlt (by omega)]
  (apply AWp_exit; simp only [AThen, ABlock, reduceIte, Nat.reduceEqDiff]; clear hK K; refine hK _ _ ?_; clear hK K; (iterate 2 (refine AWp_seq_k (fun K hK => ?_))); apply s_region; apply s_q; decide; rfl; (simp only [go_sem]; rfl); apply s_nil; simp only [AThen, ABlock]; refine hK _ _ ?_; clear hK K; apply AWp_block)
  refine AWp_loop_s (σ := Nat) [1, 2, 5, 7] (fun i => [.sl t (l.map intCells), ptrTo q, .sl false (o.map intCells), .v (.int .i64 (i : Nat))]) (fun _ => M) (fun i => o.length - i) (fun i => i ≤ o.length) 0 (Nat.zero_le _) rfl rfl (fun i hi => ?_)
  simp only [List.zip_cons_cons, List.zip_nil_right]
  ((iterate 2 (refine AWp_seq_k (fun K hK => ?_))); apply s_region; (iterate 4 (apply s_q; decide; rfl; (simp only [go_sem]; rfl))); apply s_nil; simp only [AThen, ABlock]; refine hK _ _ ?_; clear hK K)
  refine cond_split (by simp only [go_sem]; try rfl) (fun hz => ?_) (fun hz => ?_)
  · have hlt : i < o.length := by simpa using hz
    obtain ⟨x, hx⟩ := gete hlt
    have hgx := int_at hx
    have hxo := List.mem_of_getElem? hx
    have hxl := ((k1 x).1 hxo).1
    have hno : x ∉ o.take i := fun hm => by
      obtain ⟨m, hm, he⟩ := List.mem_take_iff_getElem.1 hm
      obtain ⟨h5, h6⟩ := List.getElem?_eq_some_iff.1 hx
      exact List.pairwise_iff_getElem.1 (List.nodup_iff_pairwise_ne.1 k2) m i (by omega) h5 (by omega) (by rw [he, h6])
    have hIo : ∀ (H : AHeap) (K : AV → AHeap → Prop), K (.v (.bool false)) H → ACall X 29 [.v (.int .i64 x), .sl false ((o.map intCells).take i)] H K := fun H K hk => by
      rw [← List.map_take]
      exact in_c x false (o.take i) (by rw [List.length_take]; omega) H K (by rw [decide_eq_false hno]; exact hk)
    have hIx : ∀ (H : AHeap) (K : AV → AHeap → Prop), K (.v (.bool true)) H → ACall X 29 [.v (.int .i64 x), .sl t (l.map intCells)] H K := fun H K hk => hIl x H K (by rw [decide_eq_true hxl]; exact hk)
    have hC : ∀ (H : AHeap) (K : AV → AHeap → Prop), K (.sl false ((chainP p [x]).map intCells)) H → ACall X 27 [.agg (pCells p), .sl true [[.v (.int .i64 x)]]] H K := fun H K hk => chain_c p hw (by omega) true [x] (by simp) H K hk
    (apply AWp_skip; simp only [AThen, ABlock]; refine hK _ _ ?_; clear hK K; refine AWp_seq_k (fun K hK => ?_); apply AWp_block; (iterate 2 (refine AWp_seq_k (fun K hK => ?_))))
    apply AWp_drawA [0, 1, 2, 3, 4, 5, 6, 7, 8, 9, 10, 11, 12, 13, 14, 15, 16] [] 0 (by exact mixed); kernel_rfl; (simp only [go_sem]; rfl); (simp only [go_sem]; rfl)
    have f1 : (0 : Int) ≤ (i : Nat) := Int.natCast_nonneg i
    have f2 : ((i : Nat) : Int).toNat = i := Int.toNat_natCast i
    have f3 : (o.map intCells).all (fun c => c.length == 1) = true := by simp [intCells]
    have f4 : 0 ≤ i := Nat.zero_le i
    ((iterate 5 (apply e_q; decide; (simp only [go_sem, hgx, f1, f2, hi, f3, f4, List.drop_zero, Bool.false_and, and_self, if_true]; rfl))); apply e_call; decide; (simp only [go_sem, hgx, f1, f2, hi, f3, f4, List.drop_zero, Bool.false_and, and_self, if_true]; rfl); (simp only [go_sem, hgx, f1, f2, hi, f3, f4, List.drop_zero, Bool.false_and, and_self, if_true]; rfl); (apply hIx; exact ⟨rfl, rfl⟩); (iterate 2 (apply e_q; decide; (simp only [go_sem, hgx, f1, f2, hi, f3, f4, List.drop_zero, Bool.false_and, and_self, if_true]; rfl))); (iterate 7 (apply e_spec; decide; (simp only [go_sem, hgx, f1, f2, hi, f3, f4, List.drop_zero, Bool.false_and, and_self, if_true]; rfl); (simp only [go_sem, hgx, f1, f2, hi, f3, f4, List.drop_zero, Bool.false_and, and_self, if_true]; rfl); (simp only [go_sem, hgx, f1, f2, hi, f3, f4, List.drop_zero, Bool.false_and, and_self, if_true]; rfl); (simp only [go_sem, hgx, f1, f2, hi, f3, f4, List.drop_zero, Bool.false_and, and_self, if_true]; rfl); trivial)); apply e_gpure; decide; (simp only [go_sem, hgx, f1, f2, hi, f3, f4, List.drop_zero, Bool.false_and, and_self, if_true]; rfl); (simp only [go_sem, hgx, f1, f2, hi, f3, f4, List.drop_zero, Bool.false_and, and_self, if_true]; rfl); (simp only [go_sem, hgx, f1, f2, hi, f3, f4, List.drop_zero, Bool.false_and, and_self, if_true]; rfl); trivial; (simp only [go_sem, hgx, f1, f2, hi, f3, f4, List.drop_zero, Bool.false_and, and_self, if_true]; rfl); (simp only [go_sem, hgx, f1, f2, hi, f3, f4, List.drop_zero, Bool.false_and, and_self, if_true]; rfl); (apply hIo; exact ⟨rfl, rfl⟩); apply e_pick; decide; (simp only [go_sem, hgx, f1, f2, hi, f3, f4, List.drop_zero, Bool.false_and, and_self, if_true]; rfl); (simp only [go_sem, hgx, f1, f2, hi, f3, f4, List.drop_zero, Bool.false_and, and_self, if_true]; rfl); (simp only [go_sem, hgx, f1, f2, hi, f3, f4, List.drop_zero, Bool.false_and, and_self, if_true]; rfl); (simp only [go_sem, hgx, f1, f2, hi, f3, f4, List.drop_zero, Bool.false_and, and_self, if_true]; rfl); (simp only [go_sem, hgx, f1, f2, hi, f3, f4, List.drop_zero, Bool.false_and, and_self, if_true]; rfl); (simp only [go_sem, hgx, f1, f2, hi, f3, f4, List.drop_zero, Bool.false_and, and_self, if_true]; rfl); trivial; trivial; trivial; apply e_nil; apply t_nil; simp only [AThen, ABlock]; refine hK _ _ ?_; clear hK K)
    refine cond_split (by simp only [go_sem]; try rfl) (fun hb2 => ?_) (fun hb2 => ?_)
    · cases hb2
    (apply AWp_skip; simp only [AThen, ABlock]; refine hK _ _ ?_; clear hK K; refine AWp_seq_k (fun K hK => ?_))
    apply AWp_drawA [0, 1, 2, 3, 4, 5, 6, 7] [] 0 (by exact mixed); kernel_rfl; (simp only [go_sem]; rfl); (simp only [go_sem]; rfl)
    ((iterate 5 (apply e_q; decide; (simp only [go_sem, g1, hgx]; rfl))); apply e_lit; decide; exact el_38; (simp only [go_sem, g1, hgx]; rfl); (simp only [go_sem, g1, hgx]; rfl); decide; apply e_call; decide; (simp only [go_sem, g1, hgx]; rfl); (simp only [go_sem, g1, hgx]; rfl); (apply hC; exact ⟨rfl, rfl⟩); apply e_q; decide; (simp only [go_sem, g1, hgx]; rfl); apply e_nil; apply t_nil; simp only [AThen, ABlock]; refine hK _ _ ?_; clear hK K; refine AWp_seq_k (fun K hK => ?_); apply s_region; (iterate 2 (apply s_q; decide; rfl; (simp only [go_sem, g1, hgx]; rfl))); apply s_nil; simp only [AThen, ABlock]; refine hK _ _ ?_; clear hK K; apply AWp_block)
    have hcl : (chainP p [x]).length ≤ 25 := chainP_short hw hev
    have hIc : ∀ (y : Int) (H : AHeap) (K : AV → AHeap → Prop), K (.v (.bool (decide (y ∈ chainP p [x])))) H → ACall X 29 [.v (.int .i64 y), .sl false ((chainP p [x]).map intCells)] H K := fun y H K hk => in_c y false _ (by omega) H K hk
    refine AWp_loop_s (σ := Nat) [1, 2, 5, 7, 8, 9] (fun k => [.sl t (l.map intCells), ptrTo q, .sl false (o.map intCells), .v (.int .i64 (i : Nat)), .sl false ((chainP p [x]).map intCells), .v (.int .i64 (k : Nat))]) (fun _ => M) (fun k => o.length - k) (fun k => i ≤ k ∧ k ≤ o.length) i ⟨Nat.le_refl _, hi⟩ rfl rfl (fun k hk => ?_)
    simp only [List.zip_cons_cons, List.zip_nil_right]
    ((iterate 2 (refine AWp_seq_k (fun K hK => ?_))); apply s_region; (iterate 4 (apply s_q; decide; rfl; (simp only [go_sem]; rfl))); apply s_nil; simp only [AThen, ABlock]; refine hK _ _ ?_; clear hK K)
    refine cond_split (by simp only [go_sem]; try rfl) (fun hg => ?_) (fun hg => ?_)
    · have hkl : k < o.length := by simpa using hg
      obtain ⟨y, hy⟩ := gete hkl
      have hgy := int_at hy
      have hyn := k3 i k x y hk.1 hx hy
      (apply AWp_skip; simp only [AThen, ABlock]; refine hK _ _ ?_; clear hK K; refine AWp_seq_k (fun K hK => ?_); apply AWp_block; refine AWp_seq_k (fun K hK => ?_); apply s_region; (iterate 5 (apply s_q; decide; rfl; (simp only [go_sem, hgy]; rfl))); apply s_call; decide; (simp only [go_sem, hgy]; rfl); (simp only [go_sem, hgy]; rfl); apply hIc; apply s_nil; simp only [AThen, ABlock]; refine hK _ _ ?_; clear hK K)
      refine cond_split (by simp only [go_sem]; try rfl) (fun hb3 => ?_) (fun hb3 => ?_)
      · exact absurd (by simpa using hb3) hyn
      (apply AWp_skip; simp only [AThen, ABlock]; refine hK _ _ ?_; clear hK K; apply s_region; (iterate 3 (apply s_q; decide; rfl; (simp only [go_sem]; rfl))); apply s_nil; simp only [AThen, ABlock])
      refine ⟨k + 1, by omega, ⟨by omega, by omega⟩, ?_, by trivial⟩
      simp only [getAll, List.map_cons, List.map_nil, AFr.get, reduceIte, Nat.reduceEqDiff]
      rw [wrapS hkl (by omega)]
    · (apply AWp_exit; simp only [AThen, ABlock, reduceIte, Nat.reduceEqDiff]; clear hK K; refine hK _ _ ?_; clear hK K; apply s_region; (iterate 3 (apply s_q; decide; rfl; (simp only [go_sem]; rfl))); apply s_nil; simp only [AThen, ABlock])
      refine ⟨i + 1, by omega, by omega, ?_, by trivial⟩
      simp only [getAll, List.map_cons, List.map_nil, AFr.get, reduceIte, Nat.reduceEqDiff]
      rw [wrapS hlt (by omega)]
  · (apply AWp_exit; simp only [AThen, ABlock, reduceIte, Nat.reduceEqDiff]; clear hK K; refine hK _ _ ?_; clear hK K; refine AWp_seq_k (fun K hK => ?_); apply s_region; apply s_call; decide; (simp only [go_sem]; rfl); (simp only [go_sem]; rfl); apply awake_c; apply s_q; decide; rfl; (simp only [go_sem]; rfl); apply s_nil; simp only [AThen, ABlock]; refine hK _ _ ?_; clear hK K; apply AWp_ret)
    exact ⟨H, hE, h⟩
end Go.Proofs.YtcpfgjfiacfmoaaGreatDoor
