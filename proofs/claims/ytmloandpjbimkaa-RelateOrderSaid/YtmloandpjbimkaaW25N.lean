/-
  The document's Reactions. Contract.
-/
import Derived.Test.YtmloandpjbimkaaW25M
set_option linter.unusedSimpArgs false
set_option linter.unusedVariables false
set_option maxRecDepth 100000
namespace Go.Proofs.Ytmloandpjbimkaa
open Go Go.AL
attribute [local irreducible] AOps AWp SOps AE AT ACall AApp

/-- where a key is among the first m keys: v is its place, or -1 -/
def AtV (q : List UInt8) (ks : List (List UInt8 × Nat)) (m : Nat) (v : Int) : Prop := (v = -1 ∧ ∀ p ∈ ks.take m, p.1 ≠ q) ∨ ∃ (j n : Nat), v = j ∧ j < m ∧ ks[j]? = some (q, n)
/-- all users' rows are frozen -/
theorem freeze_all {N : NR} {cd : Code} {Q : Exit → AFr → AHeap → Prop} {fr : AFr} {V : List Kn} {ba : Nat} : ∀ (ks : List (List UInt8 × Nat)) (pre : List Cnt) (L : AHeap), L.get ba = some (.row 50 2 false (pre.map Cnt.cells ++ ks.map (rcell V))) →
    (∀ p ∈ ks, L.get p.2 = some (.row 9 1 false ((sendersOf V p.1).map strCells)) ∧ p.2 ≠ ba) → (ks.map (·.2)).Nodup → (∀ p ∈ ks, AFr.snap p.2 1 ((sendersOf V p.1).map strCells) fr = fr) →
    (∀ L', L'.get ba = some (.row 50 2 false ((pre ++ ks.map fun p => (⟨p.1, sendersOf V p.1⟩ : Cnt)).map Cnt.cells)) → (∀ c o, L.get c = some o → c ≠ ba → (∀ p ∈ ks, c ≠ p.2) → L'.get c = some o) → AWp X N cd Q fr L') → AWp X N cd Q fr L
  | [], pre, L, h1, h2, h3, h4, h => h L (by simpa using h1) (fun c o hc _ _ => hc)
  | p :: ks, pre, L, h1, h2, h3, h4, h => by
    obtain ⟨q1, q2⟩ := h2 p List.mem_cons_self
    have hnd := List.nodup_cons.1 (show (p.2 :: ks.map (·.2)).Nodup from h3)
    have hne : ∀ r ∈ ks, r.2 ≠ p.2 := fun r hr e => hnd.1 (e ▸ List.mem_map.2 ⟨r, hr, rfl⟩)
    refine AWp.snapRow q1 h1 (Ne.symm q2) ?_
    rw [h4 p List.mem_cons_self]
    have hs : AV.snapss p.2 1 ((sendersOf V p.1).map strCells) (pre.map Cnt.cells ++ (p :: ks).map (rcell V)) = (pre ++ [(⟨p.1, sendersOf V p.1⟩ : Cnt)]).map Cnt.cells ++ ks.map (rcell V) := by
      have ha : ∀ l m : List (List AV), AV.snapss p.2 1 ((sendersOf V p.1).map strCells) (l ++ m) = AV.snapss p.2 1 ((sendersOf V p.1).map strCells) l ++ AV.snapss p.2 1 ((sendersOf V p.1).map strCells) m := fun l m => by
        induction l with
        | nil => rfl
        | cons x l ih => simp only [List.cons_append, AV.snapss, ih]
      have hr : ∀ l : List (List UInt8 × Nat), (∀ r ∈ l, r.2 ≠ p.2) → AV.snapss p.2 1 ((sendersOf V p.1).map strCells) (l.map (rcell V)) = l.map (rcell V) := fun l => by
        induction l with
        | nil => intro _; rfl
        | cons x l ih =>
          intro hx
          simp only [List.map_cons, AV.snapss]
          rw [ih (fun r hr => hx r (List.mem_cons_of_mem _ hr))]
          congr 1
          simp only [rcell, AV.snaps, AV.snap, if_neg (hx x List.mem_cons_self)]
      rw [ha, snap_cnts, List.map_cons]
      simp only [AV.snapss]
      rw [hr ks hne]
      simp only [List.map_append, List.map_cons, List.map_nil, List.append_assoc, List.cons_append, List.nil_append]
      congr 2
      simp only [rcell, AV.snaps, AV.snap, if_true, List.length_map, Nat.le_refl, and_self, Cnt.cells]
      rw [List.take_of_length_le (by simp)]
    rw [hs]
    refine freeze_all ks (pre ++ [(⟨p.1, sendersOf V p.1⟩ : Cnt)]) _ (AHeap.get_put_same _ _ _) (fun r hr => ?_) hnd.2 (fun r hr => h4 r (List.mem_cons_of_mem _ hr)) (fun L' h5 h6 => ?_)
    · obtain ⟨w1, w2⟩ := h2 r (List.mem_cons_of_mem _ hr)
      exact ⟨by rw [AHeap.get_put_ne _ _ w2, AHeap.get_put_ne _ _ (hne r hr)]; exact w1, w2⟩
    · refine h L' (by simpa using h5) (fun c o hc w1 w2 => ?_)
      refine h6 c o ?_ w1 (fun r hr => w2 r (List.mem_cons_of_mem _ hr))
      rw [AHeap.get_put_ne _ _ w1, AHeap.get_put_ne _ _ (w2 p List.mem_cons_self)]; exact hc
def aheadB (x y : Cnt) : Bool := decide (y.users.length < x.users.length) || (decide (x.users.length = y.users.length) && decide (x.key < y.key))
theorem aheadB_iff {x y : Cnt} : aheadB x y = true ↔ ahead x y := by simp [aheadB, ahead]
/-- a place below n that none below n is ahead of -/
def BestC (ls : List Cnt) (n b : Nat) : Prop := b < ls.length ∧ ∀ (k : Nat) (x y : Cnt), k < n → ls[k]? = some x → ls[b]? = some y → ¬ ahead x y
theorem bestC_step {ls : List Cnt} {n b : Nat} {x y : Cnt} (h : BestC ls n b) (hx : ls[n]? = some x) (hy : ls[b]? = some y) : BestC ls (n + 1) (if aheadB x y then n else b) := by
  have hn := (List.getElem?_eq_some_iff.1 hx).1
  split
  · rename_i hl
    rw [aheadB_iff] at hl
    refine ⟨hn, fun k u v hk hu hv => ?_⟩
    rw [hx] at hv; cases hv
    rcases Nat.lt_succ_iff_lt_or_eq.1 hk with hk | rfl
    · exact fun h2 => h.2 k u y hk hu hy (ahead_tr h2 hl)
    · rw [hx] at hu; cases hu
      exact ahead_irr _
  · rename_i hl
    rw [aheadB_iff] at hl
    refine ⟨h.1, fun k u v hk hu hv => ?_⟩
    rcases Nat.lt_succ_iff_lt_or_eq.1 hk with hk | rfl
    · exact h.2 k u v hk hu hv
    · rw [hx] at hu; cases hu
      rw [hy] at hv; cases hv
      exact hl
/-- what is told, what is left: together the counts once each, in order, what is told ahead of what is left -/
structure ToldC (cs os ls : List Cnt) : Prop where
  perm : (os ++ ls).Perm cs
  sorted : os.Pairwise fun a b => leC a b = true
  ahead : ∀ a ∈ os, ∀ b ∈ ls, leC a b = true
theorem toldC_step {cs os ls : List Cnt} {b : Nat} {y : Cnt} (h : ToldC cs os ls) (hb : BestC ls ls.length b) (hy : ls[b]? = some y) : ToldC cs (os ++ [y]) (ls.take b ++ ls.drop (b + 1)) := by
  have hbl := hb.1
  have e : ls = ls.take b ++ y :: ls.drop (b + 1) := by
    rw [← List.take_append_drop b ls]
    congr 1
    · simp
    · have : ls[b] = y := (List.getElem?_eq_some_iff.1 hy).2
      rw [List.take_append_drop, List.drop_eq_getElem_cons hbl, this]
  have hp : ls.Perm (y :: (ls.take b ++ ls.drop (b + 1))) := by
    conv => lhs; rw [e]
    exact List.perm_middle
  have hmem : ∀ c ∈ ls.take b ++ ls.drop (b + 1), c ∈ ls := fun c hc => hp.mem_iff.2 (List.mem_cons_of_mem _ hc)
  have hym : y ∈ ls := List.mem_of_getElem? hy
  refine ⟨?_, ?_, fun a ha c hc => ?_⟩
  · refine List.Perm.trans ?_ h.perm
    rw [List.append_assoc]
    exact List.Perm.append_left os hp.symm
  · refine List.pairwise_append.2 ⟨h.sorted, List.pairwise_singleton _ _, fun a ha c hc => ?_⟩
    simp at hc; subst hc
    exact h.ahead a ha c hym
  · rcases List.mem_append.1 ha with ha | ha
    · exact h.ahead a ha c (hmem c hc)
    · simp at ha; subst ha
      obtain ⟨k, hk, hkc⟩ := List.getElem_of_mem (hmem c hc)
      rw [leC_iff]
      exact hb.2 k c a hk (by rw [List.getElem?_eq_getElem hk, hkc]) hy
set_option maxHeartbeats 16000000 in
theorem rreactions_c (t : Bool) (l : List Kn) (name : List UInt8) (hl : l.length ≤ 1000000) (hok : ∀ k ∈ l, k.Ok) (H : AHeap) (K : AV → AHeap → Prop) (h : K (.sl false ((reactL l name).map Cnt.cells)) H) :
    ACall X 19 [.sl t (l.map Kn.cells), .s name] H K := by
  refine ACall.gr (e := 50) (sz := 2) h ?_
  refine ACall_intro Try.func19 rfl (by kernel_rfl) (by rw [Try.ntmps19]; simp) ?_; rw [Try.ntmps19]; simp only [frame0, Nat.reduceAdd]
  (refine AWp_seq_k (fun K hK => ?_); apply s_region; apply s_q; decide; rfl; (simp only [go_sem]; rfl); apply s_nil; simp only [AThen, ABlock]; refine hK _ _ ?_; clear hK K; refine AWp_seq_k (fun K hK => ?_); apply s_region; apply s_q; decide; rfl; (simp only [go_sem]; rfl); apply s_call; decide; (simp only [go_sem]; rfl); (simp only [go_sem]; rfl); apply first_c t l hl; apply s_q; decide; rfl; (simp only [go_sem]; rfl); apply s_nil; simp only [AThen, ABlock]; refine hK _ _ ?_; clear hK K; refine AWp_seq_k (fun K hK => ?_); apply s_region; apply s_q; decide; rfl; (simp only [go_sem]; rfl); apply s_nil; simp only [AThen, ABlock]; refine hK _ _ ?_; clear hK K; (iterate 2 (refine AWp_seq_k (fun K hK => ?_))); apply s_region; apply s_q; decide; rfl; (simp only [go_sem]; rfl); apply s_nil; simp only [AThen, ABlock]; refine hK _ _ ?_; clear hK K; apply AWp_block)
  obtain ⟨F, hF⟩ : ∃ F, firstL l = F := ⟨_, rfl⟩
  have hFn := firstL_nodup l
  have hFl := firstL_len l
  have hFs : ∀ k ∈ firstL l, k ∈ l := fun k hk => firstL_sub l hk
  rw [hF] at hFn hFl hFs ⊢
  obtain ⟨pr, hpr⟩ : ∃ pr, isAbout kReact name = pr := ⟨_, rfl⟩
  refine AWp_loop_s (σ := Nat × List (List UInt8 × Nat) × AV × AHeap) [0, 1, 5, 6] (fun s => [.sl false (F.map Kn.cells), .s name, s.2.2.1, .v (.int .i64 s.1)]) (fun s => s.2.2.2) (fun s => F.length - s.1)
    (fun s => s.1 ≤ F.length ∧ AllAt ((F.take s.1).filter pr) s.2.1 s.2.2.1 s.2.2.2 H) (0, [], .sl true [], H) ⟨Nat.zero_le _, ⟨by simp [keysOf, dedupL], .inl ⟨rfl, rfl⟩, by simp, .nil, Ext.refl H⟩⟩ rfl rfl (fun s hs => ?_)
  obtain ⟨i, ks, a, L⟩ := s
  obtain ⟨hi, hA⟩ := hs
  simp only [List.zip_cons_cons, List.zip_nil_right] at hi hA ⊢
  obtain ⟨V, hV⟩ : ∃ V, (F.take i).filter pr = V := ⟨_, rfl⟩
  rw [hV] at hA
  have hVl : V.length ≤ i := by
    rw [← hV]
    have := List.length_filter_le pr (F.take i)
    rw [List.length_take] at this; omega
  have hkl : ks.length ≤ V.length := by
    have := keys_len V
    rw [← hA.keys, List.length_map] at this; exact this
  ((iterate 2 (refine AWp_seq_k (fun K hK => ?_))); apply s_region; (iterate 4 (apply s_q; decide; rfl; (simp only [go_sem]; rfl))); apply s_nil; simp only [AThen, ABlock]; refine hK _ _ ?_; clear hK K)
  refine cond_split (by simp only [go_sem]; try rfl) (fun hc => ?_) (fun hc => ?_)
  · have hlt : i < F.length := by simpa using hc
    obtain ⟨k, hk⟩ := gete hlt
    have hgk := kn_at hk
    have hkl : k.ev.content.Len := hok k (hFs k (List.mem_of_getElem? hk))
    obtain ⟨r1, r2, hr⟩ : ∃ r1 r2, relOf k.ev = (r1, r2, rkey k) := ⟨_, _, rfl⟩
    have hOf : ∀ (H : AHeap) (K : AV → AHeap → Prop), K (.tup [.s r1, .s r2, .s (rkey k)]) H → ACall X 11 [.agg k.ev.cells] H K := fun H K hk => rof_c25 k.ev hkl H K (by rw [hr]; exact hk)
    have hia : pr k = (decide (r1 = kReact) && decide (r2 = name)) := by rw [← hpr, isAbout, hr]
    have hpc : (if (!decide (r1 = kReact)) = true then true else !decide (r2 = name)) = !pr k := by
      rw [hia]
      cases decide (r1 = kReact) <;> cases decide (r2 = name) <;> rfl
    have hft : (F.take (i + 1)).filter pr = if pr k then V ++ [k] else V := by
      rw [take_succ hk, List.filter_append, hV, List.filter_cons]
      split <;> simp
    (apply AWp_skip; simp only [AThen, ABlock]; refine hK _ _ ?_; clear hK K; refine AWp_seq_k (fun K hK => ?_); apply AWp_block; refine AWp_seq_k (fun K hK => ?_); apply s_region; (iterate 5 (apply s_q; decide; rfl; (simp only [go_sem, hgk]; rfl))); apply s_call; decide; (simp only [go_sem, hgk]; rfl); (simp only [go_sem, hgk]; rfl); apply hOf; (iterate 7 (apply s_q; decide; rfl; (simp only [go_sem, hgk]; rfl))); apply s_nil; simp only [AThen, ABlock]; refine hK _ _ ?_; clear hK K; (iterate 2 (refine AWp_seq_k (fun K hK => ?_))); apply s_region; (iterate 3 (apply s_q; decide; rfl; (simp only [go_sem, hgk]; rfl))); (iterate 2 (apply s_spec; decide; rfl; rfl; (simp only [go_sem, hgk]; rfl); (simp only [go_sem, hgk]; rfl); (simp only [go_sem, hgk]; rfl); (simp only [go_sem, hgk]; rfl); trivial)); apply s_spec; decide; rfl; rfl; (simp only [go_sem, hgk]; rfl); (simp only [go_sem, hgk]; rfl); (simp only [go_sem, hgk]; rfl); (simp only [go_sem, hgk]; rfl); simp [condsOk]; apply s_pick; decide; (simp only [go_sem, hgk]; rfl); (simp only [go_sem, hgk]; rfl); (simp only [go_sem, hgk]; rfl); (simp only [go_sem, hgk]; rfl); (simp only [go_sem, hgk]; rfl); (simp only [go_sem, hgk]; rfl); trivial; trivial; simp [condsOk]; apply s_nil; simp only [AThen, ABlock]; refine hK _ _ ?_; clear hK K)
    refine cond_split (by simp only [go_sem]; try rfl) (fun hd => ?_) (fun hd => ?_)
    · have hpk : pr k = false := by have := hpc.symm.trans hd; simpa using this
      rw [hpk] at hft
      (apply AWp_exit; simp only [AThen, ABlock, reduceIte, Nat.reduceEqDiff]; clear hK K; refine hK _ _ ?_; clear hK K; apply s_region; (iterate 3 (apply s_q; decide; rfl; (simp only [go_sem]; rfl))); apply s_nil; simp only [AThen, ABlock])
      refine ⟨(i + 1, ks, a, L), by simp only; omega, ⟨by simp only; omega, by simp only; rw [hft]; exact hA⟩, ?_, rfl⟩
      simp only [getAll, List.map_cons, List.map_nil, AFr.get, reduceIte, Nat.reduceEqDiff]
      rw [wrapS hlt (by omega)]; try rfl
    have hpk : pr k = true := by have := hpc.symm.trans hd; simpa using this
    rw [hpk, if_pos rfl] at hft
    (apply AWp_skip; simp only [AThen, ABlock]; refine hK _ _ ?_; clear hK K; refine AWp_seq_k (fun K hK => ?_); apply s_region; apply s_q; decide; rfl; (simp only [go_sem]; rfl); apply s_nil; simp only [AThen, ABlock]; refine hK _ _ ?_; clear hK K; (iterate 2 (refine AWp_seq_k (fun K hK => ?_))); apply s_region; apply s_q; decide; rfl; (simp only [go_sem]; rfl); apply s_nil; simp only [AThen, ABlock]; refine hK _ _ ?_; clear hK K; apply AWp_block)
    have hlo := hA.len
    refine AWp_loop_s (σ := Nat × Int) [0, 1, 5, 6, 9, 10, 11] (fun s => [.sl false (F.map Kn.cells), .s name, a, .v (.int .i64 i), .s (rkey k), .v (.int .i64 s.2), .v (.int .i64 s.1)]) (fun _ => L) (fun s => ks.length - s.1)
      (fun s => s.1 ≤ ks.length ∧ AtV (rkey k) ks s.1 s.2) (0, -1) ⟨Nat.zero_le _, .inl ⟨rfl, by simp⟩⟩ rfl rfl (fun s hs => ?_)
    obtain ⟨m, v⟩ := s
    obtain ⟨hm, hv⟩ := hs
    simp only [List.zip_cons_cons, List.zip_nil_right] at hm hv ⊢
    ((iterate 2 (refine AWp_seq_k (fun K hK => ?_))); apply s_region; (iterate 2 (apply s_q; decide; rfl; (simp only [go_sem]; rfl))); (apply s_q; decide; rfl; (simp only [go_sem]; exact hlo _ _ _)); apply s_q; decide; rfl; (simp only [go_sem]; rfl); apply s_nil; simp only [AThen, ABlock]; refine hK _ _ ?_; clear hK K)
    refine cond_split (by simp only [go_sem]; try rfl) (fun he => ?_) (fun he => ?_)
    · have hmk : m < ks.length := by simpa using he
      have hmI : (m : Int) < (ks.length : Int) := by omega
      obtain ⟨ba, rfl, hba, hb0, hb1⟩ : ∃ ba, a = .row ba 2 ks.length ∧ L.get ba = some (.row 50 2 false (ks.map (rcell V))) ∧ H.get ba = none ∧ ∀ p ∈ ks, p.2 ≠ ba := by
        rcases hA.row with ⟨rfl, _⟩ | h
        · simp at hmk
        · exact h
      obtain ⟨p, hp⟩ := gete hmk
      have hgp := rcell_at (V := V) hp
      (apply AWp_skip; simp only [AThen, ABlock]; refine hK _ _ ?_; clear hK K; refine AWp_seq_k (fun K hK => ?_); apply AWp_block; refine AWp_seq_k (fun K hK => ?_); apply s_region; (iterate 7 (apply s_q; decide; rfl; (simp only [go_sem, hmI, hba, hgp]; rfl))); apply s_nil; simp only [AThen, ABlock]; refine hK _ _ ?_; clear hK K)
      refine cond_split (by simp only [go_sem]; try rfl) (fun hf => ?_) (fun hf => ?_)
      · have hpq : p.1 = rkey k := by simpa using hf
        (apply s_region; (iterate 2 (apply s_q; decide; rfl; (simp only [go_sem]; rfl))); apply s_nil; simp only [AThen, ABlock]; refine hK _ _ ?_; clear hK K; apply s_region; (iterate 3 (apply s_q; decide; rfl; (simp only [go_sem]; rfl))); apply s_nil; simp only [AThen, ABlock])
        refine ⟨(m + 1, (m : Int)), by simp only; omega, ⟨by simp only; omega, .inr ⟨m, p.2, rfl, by simp only; omega, by rw [hp, ← hpq]⟩⟩, ?_, by trivial⟩
        simp only [getAll, List.map_cons, List.map_nil, AFr.get, reduceIte, Nat.reduceEqDiff]
        rw [wrapS hmk (by omega)]; try rfl
      · have hpq : ¬ p.1 = rkey k := by simpa using hf
        (apply AWp_skip; simp only [AThen, ABlock]; refine hK _ _ ?_; clear hK K; apply s_region; (iterate 3 (apply s_q; decide; rfl; (simp only [go_sem]; rfl))); apply s_nil; simp only [AThen, ABlock])
        refine ⟨(m + 1, v), by simp only; omega, ⟨by simp only; omega, ?_⟩, ?_, by trivial⟩
        · rcases hv with ⟨h1, h2⟩ | ⟨j, n, h1, h2, h3⟩
          · refine .inl ⟨h1, fun x hx => ?_⟩
            rcases take_mem_succ hp hx with hx | hx
            · exact h2 x hx
            · subst hx; exact hpq
          · exact .inr ⟨j, n, h1, by omega, h3⟩
        · simp only [getAll, List.map_cons, List.map_nil, AFr.get, reduceIte, Nat.reduceEqDiff]
          rw [wrapS hmk (by omega)]; try rfl
    have hmk : m = ks.length := by simp at he; omega
    subst hmk
    (apply AWp_exit; simp only [AThen, ABlock, reduceIte, Nat.reduceEqDiff]; clear hK K; refine hK _ _ ?_; clear hK K; (iterate 2 (refine AWp_seq_k (fun K hK => ?_))); apply s_region; (iterate 2 (apply s_q; decide; rfl; (simp only [go_sem]; rfl))); apply s_nil; simp only [AThen, ABlock]; refine hK _ _ ?_; clear hK K)
    have hstep := senders_step V k
    have hsl : ∀ q, (sendersOf V q).length ≤ 1000000 := fun q => Nat.le_trans (senders_len V q) (by omega)
    have hrest : ∀ (fr' : AFr) (ba j : Nat) (es2 : List (List AV)) (ua : AV) (us : List (List UInt8)) (L1 : AHeap), getAll [0, 1, 5, 6, 10] fr' = [.sl false (F.map Kn.cells), .s name, .row ba 2 es2.length, .v (.int .i64 i), .v (.int .i64 j)] →
        L1.get ba = some (.row 50 2 false es2) → es2[j]? = some [.s (rkey k), ua] → ((ua = .sl true [] ∧ us = []) ∨ ∃ b, ua = .row b 1 us.length ∧ L1.get b = some (.row 9 1 false (us.map strCells))) → us.length ≤ 1000000 → (∀ b, ua = .row b 1 us.length → b ≠ ba) →
        (∀ (b' : Nat) (L3 : AHeap), L3.get ba = some (.row 50 2 false (es2.set j [.s (rkey k), .row b' 1 (insL us k.ev.sender).length])) → L3.get b' = some (.row 9 1 false ((insL us k.ev.sender).map strCells)) →
          (∀ c o, L1.get c = some o → c ≠ ba → (∀ b, ua = .row b 1 us.length → c ≠ b) → L3.get c = some o ∧ c ≠ b') → b' ≠ ba → ∃ ks', AllAt (V ++ [k]) ks' (.row ba 2 es2.length) L3 H) → K fr' L1 := by
      intro fr' ba j es2 ua us L1 hfr hba hej hus hul hub hend
      refine hK _ _ (AWp_cut _ hfr ?_)
      clear hK
      simp only [List.zip_cons_cons, List.zip_nil_right]
      have hjl : j < es2.length := (List.getElem?_eq_some_iff.1 hej).1
      have hjI : (j : Int) < (es2.length : Int) := by omega
      obtain ⟨Hs, hHs, hHba, hkeep⟩ : ∃ Hs : AHeap, Ext Hs L1 ∧ Hs.get ba = some (.row 50 2 false es2) ∧ ∀ L2 : AHeap, (∀ c o, L1.get c = some o → (∀ b, ua = .row b 1 us.length → c ≠ b) → L2.get c = some o) → Ext Hs L2 := by
        rcases hus with ⟨rfl, _⟩ | ⟨b, rfl, hb⟩
        · exact ⟨L1, Ext.refl _, hba, fun L2 h2 c o hc => h2 c o hc (fun b hb => by cases hb)⟩
        · refine ⟨L1.del b, fun c o hc => ?_, ?_, fun L2 h2 c o hc => ?_⟩
          · rw [AHeap.get_del] at hc
            split at hc
            · cases hc
            · exact hc
          · rw [AHeap.get_del, if_neg (Ne.symm (hub b rfl))]; exact hba
          · rw [AHeap.get_del] at hc
            split at hc
            · cases hc
            · rename_i hne
              exact h2 c o hc (fun b2 hb2 => by cases hb2; exact hne)
      apply AWp_drawAH [0, 1, 2, 3, 4, 5, 6, 7, 8, 9, 10, 11, 12, 14, 15] [13, 16] 1 (hHs) (by exact mixed); kernel_rfl; (simp only [go_sem]; rfl); (simp only [go_sem]; rfl)
      ((iterate 15 (apply e_q; decide; (simp only [go_sem, hjI, hHba, hej, hgk]; rfl))); apply e_nil; apply t_call; decide; (simp only [go_sem, hjI, hHba, hej, hgk]; rfl); (simp only [go_sem, hjI, hHba, hej, hgk]; rfl); apply insert_c us k.ev.sender hul ua L1 hus; intro b' L2 hb' hk'; refine ⟨(fun _ => hkeep L2 (fun c o hc hb => (hk' c o hc hb).1)), ?_⟩)
      have hb2 := hk' ba _ hba (fun b hb => Ne.symm (hub b hb))
      have hba2 := hb2.1
      have hput : putAt 1 [AV.row b' 1 (insL us k.ev.sender).length] [AV.s (rkey k), ua] = [AV.s (rkey k), .row b' 1 (insL us k.ev.sender).length] := rfl
      (apply t_storex; (simp only [go_sem, hba2, hej]; rfl); (simp only [go_sem, hba2, hej]; rfl); (simp only [go_sem, hba2, hej]; rfl); (first | (intro _; exact Ext.put (Ext.refl _) (by assumption)) | (intro h; exact absurd h (by decide)) | (intro _; exact Ext.put (by assumption) (by assumption))); apply t_nil; simp only [AThen, ABlock]; refine hK _ _ ?_; clear hK K; apply s_region; (iterate 3 (apply s_q; decide; rfl; (simp only [go_sem, hba2, hej]; rfl))); apply s_nil; simp only [AThen, ABlock])
      have g1 := AHeap.get_put_same ba (.row 50 2 false (es2.set j [.s (rkey k), .row b' 1 (insL us k.ev.sender).length])) L2
      have g2 := get_other (x := .row 50 2 false (es2.set j [.s (rkey k), .row b' 1 (insL us k.ev.sender).length])) hb' (Ne.symm hb2.2)
      obtain ⟨ks', hA'⟩ := hend b' _ g1 g2 (fun c o hc h1 h2 => by
        obtain ⟨q1, q2⟩ := hk' c o hc h2
        exact ⟨get_other q1 h1, q2⟩) (Ne.symm hb2.2)
      refine ⟨(i + 1, ks', .row ba 2 es2.length, _), by simp only; omega, ⟨by simp only; omega, by simp only; rw [hft]; exact hA'⟩, ?_, rfl⟩
      simp only [getAll, List.map_cons, List.map_nil, AFr.get, reduceIte, Nat.reduceEqDiff]
      rw [wrapS hlt (by omega)]; try rfl
    clear hK
    rcases hv with ⟨rfl, hno⟩ | ⟨j, n, rfl, hj, hjn⟩
    · have hnk : rkey k ∉ keysOf V := fun h => by
        rw [← hA.keys] at h
        obtain ⟨p, hp, hpe⟩ := List.mem_map.1 h
        exact hno p (by rw [List.take_length]; exact hp) hpe
      have hng : decide ((-1 : Int) < 0) = true := rfl
      refine cond_split (by simp only [go_sem]; try rfl) (fun hq => ?_) (fun hq => ?_)
      rotate_left
      · cases hq
      have hsr : ∀ M : AHeap, srcV X.P M 2 41 (.sl true [[AV.s (rkey k), .sl true []]]) = some [[AV.s (rkey k), .sl true []]] := fun M => src_sl tk_41 (by simp [AV.one])
      have hln : (ks.map (rcell V)).length = ks.length := List.length_map _
      (refine AWp_seq_k (fun K hK => ?_); apply s_region; (iterate 3 (apply s_q; decide; rfl; (simp only [go_sem]; rfl))); apply s_lit; decide; exact el_41; (simp only [go_sem]; rfl); (simp only [go_sem]; rfl); decide; apply s_append; decide; (simp only [go_sem]; rfl); (simp only [go_sem]; rfl); apply AApp_push (nes := [[AV.s (rkey k), .sl true []]]) el_41 hA.held (by intro c hc; obtain ⟨p, _, rfl⟩ := List.mem_map.1 hc; rfl) hsr (by simp) (by simp; omega) (by simp; omega); intro ba L1 hba hkp; apply s_q; decide; rfl; (simp only [go_sem]; rfl); apply s_nil; simp only [AThen, ABlock]; refine hK _ _ ?_; clear hK K; apply s_region; (iterate 4 (apply s_q; decide; rfl; (simp only [go_sem]; rfl))); apply s_nil; simp only [AThen, ABlock])
      have hl1 : (ks.map (rcell V) ++ [[AV.s (rkey k), .sl true []]]).length = ks.length + 1 := by simp
      rw [hl1]
      have hw1 : IntKind.i64.wrap (((ks.length + 1 : Nat) : Int) - 1) = (ks.length : Int) := by rw [wrap64 (by omega)]; omega
      refine hrest _ ba ks.length (ks.map (rcell V) ++ [[AV.s (rkey k), .sl true []]]) (.sl true []) [] L1 ?_ hba (by rw [List.getElem?_append_right (by rw [hln]; exact Nat.le_refl _), hln]; simp) (.inl ⟨rfl, rfl⟩) (by simp) (fun b hb => by cases hb) (fun b' L3 h1 h2 h3 h4 => ⟨ks ++ [(rkey k, b')], ?_⟩)
      · simp only [getAll, List.map_cons, List.map_nil, AFr.get, reduceIte, Nat.reduceEqDiff]
        rw [hl1, hw1]
      · have hsn := senders_nil hnk
        rw [hsn] at hstep
        have hlast : (ks.map (rcell V) ++ [[AV.s (rkey k), .sl true []]]).set ks.length [.s (rkey k), .row b' 1 (insL [] k.ev.sender).length] = ks.map (rcell V) ++ [[.s (rkey k), .row b' 1 (insL [] k.ev.sender).length]] := by
          rw [List.set_append_right _ _ (by rw [hln]; exact Nat.le_refl _), hln]; simp
        rw [hlast] at h1
        have := AllAt.push (b' := b') (ba := ba) (L1 := L1) (L3 := L3) hA hnk (fun c o hc hb => by
          rw [hln] at hkp; exact hkp c o hc hb) (by rw [hstep]; exact h1) (by rw [hstep]; exact h2) (fun c o hc hb => h3 c o hc hb (fun b hb => by cases hb)) h4
        have e : (ks ++ [(rkey k, b')]).length = (ks.map (rcell V) ++ [[AV.s (rkey k), .sl true []]]).length := by simp
        rw [e] at this
        exact this
    · obtain ⟨ba, rfl, hba, hb0, hb1⟩ : ∃ ba, a = .row ba 2 ks.length ∧ L.get ba = some (.row 50 2 false (ks.map (rcell V))) ∧ H.get ba = none ∧ ∀ p ∈ ks, p.2 ≠ ba := by
        rcases hA.row with ⟨rfl, _⟩ | h
        · simp at hj
        · exact h
      have hln : (ks.map (rcell V)).length = ks.length := List.length_map _
      refine cond_split (by simp only [go_sem]; try rfl) (fun hq => ?_) (fun hq => ?_)
      · simp at hq; omega
      (apply AWp_skip; simp only [AThen, ABlock])
      refine hrest _ ba j (ks.map (rcell V)) (.row n 1 (sendersOf V (rkey k)).length) (sendersOf V (rkey k)) L ?_ hba (rcell_at hjn) (.inr ⟨n, rfl, (hA.users _ (List.mem_of_getElem? hjn)).1⟩) (hsl _) (fun b hb => by cases hb; exact hb1 _ (List.mem_of_getElem? hjn)) (fun b' L3 h1 h2 h3 h4 => ⟨ks.set j (rkey k, b'), ?_⟩)
      · simp only [getAll, List.map_cons, List.map_nil, AFr.get, reduceIte, Nat.reduceEqDiff]
        rw [hln]
      · have := AllAt.put (L1 := L) (b' := b') (L3 := L3) hA hjn rfl (by rw [hstep]; exact h1) (by rw [hstep]; exact h2) (fun c o hc h5 h6 => h3 c o hc h5 (fun b hb => by cases hb; exact h6)) h4
        have e : (ks.set j (rkey k, b')).length = (ks.map (rcell V)).length := by simp
        rw [e] at this
        exact this
  · have hge : F.length ≤ i := by simpa using hc
    have hiF : i = F.length := by omega
    subst hiF
    have hVa : V = aboutL l kReact name := by rw [← hV, List.take_length, aboutL, hF, hpr]
    have hcs : ks.map (fun p => (⟨p.1, sendersOf V p.1⟩ : Cnt)) = cntsOf V := by rw [cntsOf, ← hA.keys, List.map_map]; rfl
    refine AWp_cut [5] (vs := [a]) rfl ?_
    simp only [List.zip_cons_cons, List.zip_nil_right]
    have hfz : ∀ (cd : Code) (Q : Exit → AFr → AHeap → Prop), (∀ M L', Ext H M → Gr 50 2 M ((cntsOf V).map Cnt.cells) a L' → AWp X ⟨143, none⟩ cd Q [(5, a)] L') → AWp X ⟨143, none⟩ cd Q [(5, a)] L := by
      intro cd Q hq
      rcases hA.row with ⟨rfl, rfl⟩ | ⟨ba, rfl, h1, h2, h3⟩
      · have e : cntsOf V = [] := by rw [← hcs]; rfl
        exact hq L L hA.ext (by rw [e]; exact .inl ⟨rfl, rfl, rfl⟩)
      · refine freeze_all ks [] L (by simpa using h1) (fun p hp => ⟨(hA.users p hp).1, h3 p hp⟩) hA.apart (fun p hp => ?_) (fun L' h4 h5 => ?_)
        · simp only [AFr.snap, AV.snap, if_neg (Ne.symm (h3 p hp))]
        · rw [List.nil_append, hcs] at h4
          have hE' : Ext H L' := fun c o hc => h5 c o (hA.ext _ _ hc) (by rintro rfl; rw [h2] at hc; cases hc) (fun p hp => by rintro rfl; rw [(hA.users p hp).2] at hc; cases hc)
          have hlen : ks.length = ((cntsOf V).map Cnt.cells).length := by rw [← hcs]; simp
          have hR : RowAt 50 2 H L' ((cntsOf V).map Cnt.cells) (.row ba 2 ks.length) := .inr ⟨ba, h2, by rw [hlen], h4⟩
          obtain ⟨M, hM1, hM2⟩ := hR.toGr hE'
          exact hq M L' hM1 hM2
    have hcl : (cntsOf V).length ≤ 1000000 := by rw [← hcs, List.length_map]; omega
    have hcn := cnts_nodup V
    refine hfz _ _ (fun M L' hEM hGa => ?_)
    clear hfz hA
    (apply AWp_exit; simp only [AThen, ABlock, reduceIte, Nat.reduceEqDiff]; clear hK K; refine hK _ _ ?_; clear hK K; refine AWp_seq_k (fun K hK => ?_); apply s_region; apply s_q; decide; rfl; (simp only [go_sem]; rfl); apply s_nil; simp only [AThen, ABlock]; refine hK _ _ ?_; clear hK K; refine AWp_seq_k (fun K hK => ?_); apply AWp_block)
    refine AWp_loop_s (σ := List Cnt × List Cnt × AV × AV × AHeap × AHeap) [5, 12] (fun s => [s.2.2.1, s.2.2.2.1]) (fun s => s.2.2.2.2.2) (fun s => s.2.1.length)
      (fun s => ToldC (cntsOf V) s.1 s.2.1 ∧ Ext H s.2.2.2.2.1 ∧ RowAt 50 2 H s.2.2.2.2.1 (s.1.map Cnt.cells) s.2.2.2.1 ∧ Gr 50 2 s.2.2.2.2.1 (s.2.1.map Cnt.cells) s.2.2.1 s.2.2.2.2.2)
      ([], cntsOf V, a, .sl true [], M, L') ⟨⟨by simp, .nil, fun a ha => by cases ha⟩, hEM, RowAt.nil _ _ _ _, hGa⟩ rfl rfl (fun s hs => ?_)
    clear hEM hGa
    obtain ⟨os, ls, a, o, M, L⟩ := s
    obtain ⟨hT, hEM, hRo, hGa⟩ := hs
    simp only [List.zip_cons_cons, List.zip_nil_right] at hT hEM hRo hGa ⊢
    have hlen : os.length + ls.length = (cntsOf V).length := by have := hT.perm.length_eq; simpa using this
    have hsn : ∀ b, M.get b = none → AFr.snap b 2 (ls.map Cnt.cells) [(12, o)] = [(12, o)] := by
      intro b hb
      rcases hRo with ⟨rfl, _⟩ | ⟨b2, h1, rfl, h3⟩
      · rfl
      · have : b2 ≠ b := by rintro rfl; rw [h3] at hb; cases hb
        simp [AFr.snap, AV.snap, this]
    refine AWp_gr2 hGa hsn ?_
    have hlm : (ls.map Cnt.cells).length = ls.length := List.length_map _
    ((iterate 2 (refine AWp_seq_k (fun K hK => ?_))); apply s_region; (iterate 3 (apply s_q; decide; rfl; (simp only [go_sem]; rfl))); apply s_nil; simp only [AThen, ABlock]; refine hK _ _ ?_; clear hK K)
    refine cond_split (by simp only [go_sem]; try rfl) (fun hz => ?_) (fun hz => ?_)
    · have hpos : 0 < ls.length := by simpa using hz
      (apply AWp_skip; simp only [AThen, ABlock]; refine hK _ _ ?_; clear hK K; apply AWp_block; refine AWp_seq_k (fun K hK => ?_); apply s_region; apply s_q; decide; rfl; (simp only [go_sem]; rfl); apply s_nil; simp only [AThen, ABlock]; refine hK _ _ ?_; clear hK K; (iterate 2 (refine AWp_seq_k (fun K hK => ?_))); apply s_region; apply s_q; decide; rfl; (simp only [go_sem]; rfl); apply s_nil; simp only [AThen, ABlock]; refine hK _ _ ?_; clear hK K; apply AWp_block)
      refine AWp_loop_s (σ := Nat × Nat) [5, 12, 13, 14] (fun s => [.sl false (ls.map Cnt.cells), o, .v (.int .i64 s.1), .v (.int .i64 s.2)]) (fun _ => M) (fun s => ls.length - s.2) (fun s => s.2 ≤ ls.length ∧ 1 ≤ s.2 ∧ BestC ls s.2 s.1) (0, 1) ⟨hpos, Nat.le_refl _, hpos, fun k x y hk hx hy => ?_⟩ rfl rfl (fun s hs => ?_)
      · have : k = 0 := by simp only at hk; omega
        subst this
        rw [hx] at hy; cases hy
        exact ahead_irr _
      obtain ⟨b, n⟩ := s
      obtain ⟨hn, hn1, hB⟩ := hs
      simp only [List.zip_cons_cons, List.zip_nil_right] at hn hn1 hB ⊢
      obtain ⟨y, hy⟩ := gete hB.1
      have hgy := cnt_at hy
      ((iterate 2 (refine AWp_seq_k (fun K hK => ?_))); apply s_region; (iterate 4 (apply s_q; decide; rfl; (simp only [go_sem]; rfl))); apply s_nil; simp only [AThen, ABlock]; refine hK _ _ ?_; clear hK K)
      refine cond_split (by simp only [go_sem]; try rfl) (fun hw => ?_) (fun hw => ?_)
      · have hnl : n < ls.length := by simpa using hw
        obtain ⟨x, hx⟩ := gete hnl
        have hgx := cnt_at hx
        have hBs := bestC_step hB hx hy
        (apply AWp_skip; simp only [AThen, ABlock]; refine hK _ _ ?_; clear hK K; refine AWp_seq_k (fun K hK => ?_); apply AWp_block; refine AWp_seq_k (fun K hK => ?_))
        apply AWp_drawA [0, 1, 2, 3, 4, 5, 6, 7, 8, 9, 10, 11, 12, 13] [] 0 (by exact mixed); kernel_rfl; (simp only [go_sem]; rfl); (simp only [go_sem]; rfl)
        ((iterate 14 (apply e_q; decide; (simp only [go_sem, hgx, hgy]; rfl))); apply e_nil; apply t_nil; simp only [AThen, ABlock]; refine hK _ _ ?_; clear hK K; refine AWp_seq_k (fun K hK => ?_))
        apply AWp_drawA [0, 1, 2, 3, 4, 5, 6, 7, 8, 9, 10, 11, 12, 13, 14, 15, 16, 17, 18, 19, 20] [] 0 (by exact mixed); kernel_rfl; (simp only [go_sem]; rfl); (simp only [go_sem]; rfl)
        ((iterate 4 (apply e_q; decide; (simp only [go_sem, hgx, hgy]; rfl))); (iterate 2 (apply e_spec; decide; (simp only [go_sem, hgx, hgy]; rfl); (simp only [go_sem, hgx, hgy]; rfl); (simp only [go_sem, hgx, hgy]; rfl); (simp only [go_sem, hgx, hgy]; rfl); trivial)); (iterate 2 (apply e_spec; decide; (simp only [go_sem, hgx, hgy]; rfl); (simp only [go_sem, hgx, hgy]; rfl); (simp only [go_sem, hgx, hgy]; rfl); (simp only [go_sem, hgx, hgy]; rfl); simp [condsOk])); (iterate 2 (apply e_spec; decide; (simp only [go_sem, hgx, hgy]; rfl); (simp only [go_sem, hgx, hgy]; rfl); (simp only [go_sem, hgx, hgy]; rfl); (simp only [go_sem, hgx, hgy]; rfl); trivial)); (iterate 3 (apply e_spec; decide; (simp only [go_sem, hgx, hgy]; rfl); (simp only [go_sem, hgx, hgy]; rfl); (simp only [go_sem, hgx, hgy]; rfl); (simp only [go_sem, hgx, hgy]; rfl); simp [condsOk])); (iterate 2 (apply e_spec; decide; (simp only [go_sem, hgx, hgy]; rfl); (simp only [go_sem, hgx, hgy]; rfl); (simp only [go_sem, hgx, hgy]; rfl); (simp only [go_sem, hgx, hgy]; rfl); trivial)); (iterate 4 (apply e_spec; decide; (simp only [go_sem, hgx, hgy]; rfl); (simp only [go_sem, hgx, hgy]; rfl); (simp only [go_sem, hgx, hgy]; rfl); (simp only [go_sem, hgx, hgy]; rfl); simp [condsOk])); apply e_pickg; decide; (simp only [go_sem, hgx, hgy]; rfl); (simp only [go_sem, hgx, hgy]; rfl); (simp only [go_sem, hgx, hgy]; rfl); (simp only [go_sem, hgx, hgy]; rfl); (simp only [go_sem, hgx, hgy]; rfl); (simp only [go_sem, hgx, hgy]; rfl); (simp only [go_sem, hgx, hgy]; rfl); (simp only [go_sem, hgx, hgy]; rfl); simp [condsOk]; simp [condsOk]; trivial; apply e_pick; decide; (simp only [go_sem, hgx, hgy]; rfl); (simp only [go_sem, hgx, hgy]; rfl); (simp only [go_sem, hgx, hgy]; rfl); (simp only [go_sem, hgx, hgy]; rfl); (simp only [go_sem, hgx, hgy]; rfl); (simp only [go_sem, hgx, hgy]; rfl); trivial; trivial; simp [condsOk]; apply e_nil; apply t_nil; simp only [AThen, ABlock]; refine hK _ _ ?_; clear hK K)
        have hab : (if decide ((y.users.length : Int) < (x.users.length : Int)) = true then true else if decide ((x.users.length : Int) = (y.users.length : Int)) = true then blt x.key y.key else false) = aheadB x y := by
          have e1 : decide ((y.users.length : Int) < (x.users.length : Int)) = decide (y.users.length < x.users.length) := decide_eq_decide.2 (by omega)
          have e2 : decide ((x.users.length : Int) = (y.users.length : Int)) = decide (x.users.length = y.users.length) := decide_eq_decide.2 (by omega)
          rw [blt_eq, e1, e2]; unfold aheadB
          cases decide (y.users.length < x.users.length) <;> cases decide (x.users.length = y.users.length) <;> rfl
        refine cond_split (by simp only [go_sem]; try rfl) (fun hv => ?_) (fun hv => ?_)
        · rw [hab.symm.trans hv] at hBs
          (apply s_region; (iterate 2 (apply s_q; decide; rfl; (simp only [go_sem]; rfl))); apply s_nil; simp only [AThen, ABlock]; refine hK _ _ ?_; clear hK K; apply s_region; (iterate 3 (apply s_q; decide; rfl; (simp only [go_sem]; rfl))); apply s_nil; simp only [AThen, ABlock])
          refine ⟨(n, n + 1), by simp only; omega, ⟨by simp only; omega, by simp only; omega, hBs⟩, ?_, by trivial⟩
          simp only [getAll, List.map_cons, List.map_nil, AFr.get, reduceIte, Nat.reduceEqDiff]
          rw [wrapS hnl (by omega)]; try rfl
        · rw [hab.symm.trans hv] at hBs
          (apply AWp_skip; simp only [AThen, ABlock]; refine hK _ _ ?_; clear hK K; apply s_region; (iterate 3 (apply s_q; decide; rfl; (simp only [go_sem]; rfl))); apply s_nil; simp only [AThen, ABlock])
          refine ⟨(b, n + 1), by simp only; omega, ⟨by simp only; omega, by simp only; omega, hBs⟩, ?_, by trivial⟩
          simp only [getAll, List.map_cons, List.map_nil, AFr.get, reduceIte, Nat.reduceEqDiff]
          rw [wrapS hnl (by omega)]; try rfl
      · have hne : n = ls.length := by simp at hw; omega
        subst hne
        have hT2 := toldC_step hT hB hy
        have hbl := hB.1
        (apply AWp_exit; simp only [AThen, ABlock, reduceIte, Nat.reduceEqDiff]; clear hK K; refine hK _ _ ?_; clear hK K; refine AWp_seq_k (fun K hK => ?_); apply s_region; (iterate 5 (apply s_q; decide; rfl; (simp only [go_sem, hgy]; rfl))); apply s_lit; decide; exact el_41; (simp only [go_sem, hgy]; rfl); (simp only [go_sem, hgy]; rfl); decide; apply s_append; decide; (simp only [go_sem, hgy]; rfl); (simp only [go_sem, hgy]; rfl); apply AApp_at el_41 hEM hRo (l := os) (m := [y]) (g := Cnt.cells) rfl rfl tk_41 cnt_one (by simp; omega) (by simp; omega); intro o2 M2 hR2 hE2 hK2; apply s_q; decide; rfl; (simp only [go_sem, hgy]; rfl); apply s_nil; simp only [AThen, ABlock]; refine hK _ _ ?_; clear hK K)
        have hall : ((ls.map Cnt.cells).all fun c => c.length == 2) = true := by
          rw [List.all_eq_true]; intro c hcl
          obtain ⟨d, _, rfl⟩ := List.mem_map.1 hcl; rfl
        have hbw : IntKind.i64.wrap ((b : Int) + 1) = ((b + 1 : Nat) : Int) := wrapS hbl (by omega)
        have f1 : (b ≤ ls.length) = True := by simp; omega
        have f2 : (b + 1 ≤ ls.length) = True := by simp; omega
        apply AWp_drawA [0, 1, 2, 3, 5, 6, 7, 8] [4, 9, 10] 1 (by exact mixed); kernel_rfl; (simp only [go_sem]; rfl); (simp only [go_sem]; rfl)
        (apply e_lit; decide; exact el_41; (simp only [go_sem, hbw, f1, f2, hall, hlm, Nat.le_refl]; rfl); (simp only [go_sem, hbw, f1, f2, hall, hlm, Nat.le_refl]; rfl); decide; (iterate 7 (apply e_q; decide; (simp only [go_sem, hbw, f1, f2, hall, hlm, Nat.le_refl]; rfl))); apply e_nil; apply t_append; decide; (simp only [go_sem, hbw, f1, f2, hall, hlm, Nat.le_refl]; rfl); (simp only [go_sem, hbw, f1, f2, hall, hlm, Nat.le_refl]; rfl); apply AApp_map el_41 (Gr.nil 50 2 M2) (l := []) (m := ls.take b) (g := Cnt.cells) rfl (by simp) tk_41 cnt_one (by simp; omega) (by simp; omega); intro s1 L1 hG1; have hx1 := hG1.ext; refine ⟨by (intro _; assumption), ?_⟩)
        (apply t_append; decide; (simp only [go_sem]; rfl); (simp only [go_sem]; rfl); apply AApp_map el_41 hG1 (l := [] ++ ls.take b) (m := ls.drop (b + 1)) (g := Cnt.cells) rfl (by rw [List.take_of_length_le (by simp), List.map_drop]) tk_41 cnt_one (by simp; omega) (by simp; omega); intro s2 L2 hG2; have hx2 := hG2.ext; refine ⟨by (intro _; assumption), ?_⟩; apply t_q; decide; (simp only [go_sem]; rfl); (intro _; assumption); apply t_nil; simp only [AThen, ABlock])
        refine ⟨(os ++ [y], ls.take b ++ ls.drop (b + 1), s2, o2, M2, L2), ?_, ⟨hT2, hE2, hR2, hG2⟩, by trivial, by trivial⟩
        simp; omega
    · have hnil : ls = [] := by
        have := of_decide_eq_false hz
        have : ls.length = 0 := by omega
        exact List.length_eq_zero_iff.1 this
      subst hnil
      have hfinal := sortC_eq (l := cntsOf V) (m := os) hcn (by simpa using hT.perm) hT.sorted
      have hre : reactL l name = os := by rw [hfinal, reactL, hVa]
      have hfin := hRo.toGr hEM
      rw [← hre] at hfin
      (apply AWp_exit; simp only [AThen, ABlock, reduceIte, Nat.reduceEqDiff]; clear hK K; refine hK _ _ ?_; clear hK K; refine AWp_seq_k (fun K hK => ?_); apply s_region; (iterate 2 (apply s_q; decide; rfl; (simp only [go_sem]; rfl))); apply s_nil; simp only [AThen, ABlock]; refine hK _ _ ?_; clear hK K; apply AWp_ret)
      exact hfin
end Go.Proofs.Ytmloandpjbimkaa
