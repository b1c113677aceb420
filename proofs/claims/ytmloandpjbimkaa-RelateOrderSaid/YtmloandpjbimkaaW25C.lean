/-
  Known events, a row's first ones by name, those about another one. Contract of about.
-/
import Derived.Test.YtmloandpjbimkaaW25B
set_option linter.unusedSimpArgs false
set_option linter.unusedVariables false
set_option maxRecDepth 100000
namespace Go.Proofs.Ytmloandpjbimkaa
open Go Go.AL
attribute [local irreducible] AOps AWp SOps AE AT ACall AApp

structure Kn where
  name : List UInt8
  ev : Ev
def Kn.cells (k : Kn) : List AV :=
  [.s k.name, .s k.ev.room, .s k.ev.type, .s k.ev.sender, .v (.bool k.ev.isState), .s k.ev.key, .v (.int .i64 k.ev.content.kind), .v (.int .i64 k.ev.content.int), .s k.ev.content.text, .sl false (k.ev.content.keys.map strCells), .sl false (k.ev.content.list.map J.cells),
    .sl false (k.ev.prev.map strCells), .sl false (k.ev.auth.map strCells), .v (.int .i64 k.ev.depth), .v (.int .i64 k.ev.ts), .s k.ev.hash, .sl false (k.ev.sigs.map sigCells)]
theorem kn_eq (k : Kn) : k.cells = .s k.name :: k.ev.cells := rfl
theorem kn_one (k : Kn) : k.cells.length = 17 ∧ k.cells.all AV.one = true := ⟨rfl, rfl⟩
theorem Kn.snap (b sz : Nat) (es : List (List AV)) (k : Kn) : AV.snaps b sz es k.cells = k.cells := by
  simp only [Kn.cells, AV.snaps, AV.snap, snap_strs, J.snapss, snap_sigs]
theorem snap_kns (b sz : Nat) (es : List (List AV)) (l : List Kn) : AV.snapss b sz es (l.map Kn.cells) = l.map Kn.cells := snapss_map (Kn.snap b sz es) l
theorem kn_at {l : List Kn} {i : Nat} {k : Kn} (h : l[i]? = some k) : (l.map Kn.cells)[i]? = some [.s k.name, .s k.ev.room, .s k.ev.type, .s k.ev.sender, .v (.bool k.ev.isState), .s k.ev.key, .v (.int .i64 k.ev.content.kind), .v (.int .i64 k.ev.content.int), .s k.ev.content.text, .sl false (k.ev.content.keys.map strCells), .sl false (k.ev.content.list.map J.cells),
    .sl false (k.ev.prev.map strCells), .sl false (k.ev.auth.map strCells), .v (.int .i64 k.ev.depth), .v (.int .i64 k.ev.ts), .s k.ev.hash, .sl false (k.ev.sigs.map sigCells)] := by rw [List.getElem?_map, h]; rfl
abbrev knBox (k : Kn) : AObj := .box 35 k.cells
def Kn.Ok (k : Kn) : Prop := k.ev.content.Len

/-- a row, each name once -/
def fstep (out : List Kn) (k : Kn) : List Kn := if out.any (fun x => decide (x.name = k.name)) then out else out ++ [k]
def firstL (l : List Kn) : List Kn := l.foldl fstep []
theorem firstL_snoc {l : List Kn} {i : Nat} {k : Kn} (h : l[i]? = some k) : firstL (l.take (i + 1)) = fstep (firstL (l.take i)) k := by
  rw [take_succ h, firstL, List.foldl_append]; rfl
theorem fstep_len (out : List Kn) (k : Kn) : (fstep out k).length ≤ out.length + 1 := by unfold fstep; split <;> simp
theorem firstL_len (l : List Kn) : (firstL l).length ≤ l.length := by
  have : ∀ (l out : List Kn), (l.foldl fstep out).length ≤ out.length + l.length := fun l => by
    induction l with
    | nil => intro out; simp
    | cons a l ih => intro out; simp only [List.foldl_cons, List.length_cons]; have := ih (fstep out a); have := fstep_len out a; omega
  have := this l []
  simpa [firstL] using this
theorem fstep_sub {out : List Kn} {k x : Kn} (h : x ∈ fstep out k) : x ∈ out ∨ x = k := by
  unfold fstep at h; split at h
  · exact .inl h
  · simpa using h
theorem firstL_sub (l : List Kn) {x : Kn} (h : x ∈ firstL l) : x ∈ l := by
  have : ∀ (l out : List Kn), x ∈ l.foldl fstep out → x ∈ out ∨ x ∈ l := fun l => by
    induction l with
    | nil => intro out h; exact .inl h
    | cons a l ih =>
      intro out h
      rcases ih _ h with h | h
      · rcases fstep_sub h with h | h
        · exact .inl h
        · subst h; exact .inr List.mem_cons_self
      · exact .inr (List.mem_cons_of_mem _ h)
  rcases this l [] h with h | h
  · cases h
  · exact h
theorem fstep_nodup {out : List Kn} {k : Kn} (h : (out.map (·.name)).Nodup) : ((fstep out k).map (·.name)).Nodup := by
  unfold fstep
  split
  · exact h
  · rename_i hn
    rw [List.map_append]
    refine List.nodup_append.2 ⟨h, by simp, ?_⟩
    intro a ha b hb
    simp at hb; subst hb
    obtain ⟨x, hx, rfl⟩ := List.mem_map.1 ha
    intro e
    exact hn (List.any_eq_true.2 ⟨x, hx, by simpa using e⟩)
theorem firstL_nodup (l : List Kn) : ((firstL l).map (·.name)).Nodup := by
  have : ∀ (l out : List Kn), (out.map (·.name)).Nodup → ((l.foldl fstep out).map (·.name)).Nodup := fun l => by
    induction l with
    | nil => intro out h; exact h
    | cons a l ih => intro out h; exact ih _ (fstep_nodup h)
  exact this l [] (by simp)
/-- does an event bear that relation to that event? -/
def isAbout (kind name : List UInt8) (k : Kn) : Bool := decide ((relOf k.ev).1 = kind) && decide ((relOf k.ev).2.1 = name)
def aboutL (l : List Kn) (kind name : List UInt8) : List Kn := (firstL l).filter (isAbout kind name)
/-- events as a map's entries -/
def kEnts (l : List Kn) : List (List UInt8 × AV) := l.map fun k => (k.name, .agg k.ev.cells)
def seenEnts (l : List Kn) : List (List UInt8 × AV) := l.map fun k => (k.name, .v (.bool true))
theorem kfind_seen {n : List UInt8} {l : List Kn} : kfind n (seenEnts l) = if l.any (fun x => decide (x.name = n)) then some (.v (.bool true)) else none := by
  induction l with
  | nil => rfl
  | cons a l ih =>
    simp only [seenEnts, List.map_cons, kfind] at ih ⊢
    by_cases h : a.name = n
    · rw [if_pos h]; simp [h]
    · rw [if_neg h, ih]; simp [h]
set_option maxHeartbeats 2000000 in
theorem about_c (t : Bool) (l : List Kn) (kind name : List UInt8) (hl : l.length ≤ 1000000) (hok : ∀ k ∈ l, k.Ok) (H : AHeap) (K : AV → AHeap → Prop) (h : ∀ q, H.get q = none → K (.v (.map (some q))) (H.put q (.smap (kEnts (aboutL l kind name))))) : ACall X 33 [.sl t (l.map Kn.cells), .s kind, .s name] H K := by
  refine ACall.drop ?_
  refine ACall_intro Try.func33 rfl (by kernel_rfl) (by rw [Try.ntmps33]; simp) ?_; rw [Try.ntmps33]; simp only [frame0, Nat.reduceAdd]
  refine AWp_seq_k (fun K hK => ?_); apply s_region
  (apply s_q; decide; rfl; (simp only [go_sem]; rfl); apply s_nil; simp only [AThen, ABlock]; refine hK _ _ ?_; clear hK K; refine AWp_seq_k (fun K hK => ?_); apply s_region; apply s_smap; decide; exact mp_68; intro b hb; apply s_q; decide; rfl; (simp only [go_sem]; rfl); apply s_nil; simp only [AThen, ABlock]; refine hK _ _ ?_; clear hK K; refine AWp_seq_k (fun K hK => ?_); apply s_region; apply s_smap; decide; exact mp_62; intro b hb; apply s_q; decide; rfl; (simp only [go_sem]; rfl); apply s_nil; simp only [AThen, ABlock]; refine hK _ _ ?_; clear hK K; (iterate 2 (refine AWp_seq_k (fun K hK => ?_))); apply s_region; (iterate 3 (apply s_q; decide; rfl; (simp only [go_sem]; rfl))); apply s_nil; simp only [AThen, ABlock]; refine hK _ _ ?_; clear hK K; apply AWp_block)
  rename_i q1 hq1
  obtain ⟨q2, hnewq⟩ : ∃ q, q = b := ⟨_, rfl⟩; have hq2 := hb; rw [← hnewq] at hq2 ⊢; clear hb hnewq; try clear he; clear b
  have hn2 := none_fresh hq2
  have hne : q1 ≠ q2 := fun e => by subst e; rw [AHeap.get_put_same] at hq2; cases hq2
  have m2 := AHeap.get_put_same q2 (.smap []) (H.put q1 (.smap []))
  have m1 := get_fresh (AHeap.get_put_same q1 (.smap []) H) hq2 (x := .smap [])
  have hE := (Ext.fresh hq1 (o := .smap [])).put hq2 (ob := .smap [])
  generalize (H.put q1 (.smap [])).put q2 (.smap []) = M at m1 m2 hE ⊢
  refine AWp_loop_s (σ := Nat × AHeap) [1, 2, 7, 8, 16, 17, 18] (fun s => [.s kind, .s name, .v (.map (some q1)), .v (.map (some q2)), .sl t (l.map Kn.cells), .v (.int .i64 l.length), .v (.int .i64 s.1)]) (fun s => s.2) (fun s => l.length - s.1) (fun s => s.1 ≤ l.length ∧ s.2.get q1 = some (.smap (seenEnts (firstL (l.take s.1)))) ∧ s.2.get q2 = some (.smap (kEnts (aboutL (l.take s.1) kind name))) ∧ Ext H s.2) (0, M) ⟨Nat.zero_le _, m1, m2, hE⟩ rfl rfl (fun s hs => ?_)
  clear m1 m2 hE
  obtain ⟨i, L⟩ := s
  obtain ⟨hi, m1, m2, hE⟩ := hs
  simp only [List.zip_cons_cons, List.zip_nil_right] at hi m1 m2 hE ⊢
  (refine AWp_seq_k (fun K hK => ?_); apply s_region; apply s_q; decide; rfl; (simp only [go_sem]; rfl); apply s_nil; simp only [AThen, ABlock]; refine hK _ _ ?_; clear hK K; refine AWp_seq_k (fun K hK => ?_))
  refine cond_split (by simp only [go_sem]; try rfl) (fun hc => ?_) (fun hc => ?_)
  · have hlt : i < l.length := by simpa using hc
    obtain ⟨k, hm⟩ := gete hlt
    have hg := kn_at hm
    have hkl : k.ev.content.Len := hok k (List.mem_of_getElem? hm)
    have hfs := firstL_snoc hm
    have hks := kfind_seen (n := k.name) (l := firstL (l.take i))
    (apply AWp_skip; simp only [AThen, ABlock]; refine hK _ _ ?_; clear hK K; refine AWp_seq_k (fun K hK => ?_); apply AWp_block; refine AWp_seq_k (fun K hK => ?_); apply s_region; (iterate 2 (apply s_q; decide; rfl; (simp only [go_sem, hg]; rfl))); apply s_alloc; decide; exact zc_35; intro b hb; apply s_store; (simp only [go_sem, hg]; rfl); (simp only [go_sem, hg]; rfl); (simp only [go_sem, hg]; rfl); apply s_nil; simp only [AThen, ABlock]; refine hK _ _ ?_; clear hK K; (iterate 2 (refine AWp_seq_k (fun K hK => ?_))); apply s_region; (iterate 3 (apply s_q; decide; rfl; (simp only [go_sem, hg]; rfl))))
    obtain ⟨p, hnewq⟩ : ∃ q, q = b := ⟨_, rfl⟩; have hp := hb; rw [← hnewq] at hp ⊢; clear hb hnewq; try clear he; clear b
    generalize hgenq : AHeap.put p _ L = M2; obtain ⟨g3, hextq⟩ := gen_ex hgenq hp; have m1 := hextq _ _ m1; have m2 := hextq _ _ m2; have hE := Ext.trans hE hextq; clear hextq hgenq
    have hp1 : p ≠ q1 := fun e => by rw [e, m1] at g3; cases g3
    have hp2 : p ≠ q2 := fun e => by rw [e, m2] at g3; cases g3
    obtain ⟨r1, r2, r3, hr⟩ : ∃ r1 r2 r3, relOf k.ev = (r1, r2, r3) := ⟨_, _, _, rfl⟩
    have hOf : ∀ (H : AHeap) (K : AV → AHeap → Prop), K (.tup [.s r1, .s r2, .s r3]) H → ACall X 10 [.agg k.ev.cells] H K := fun H K hk => of_c25 k.ev hkl H K (by rw [hr]; exact hk)
    have hia : isAbout kind name k = (decide (r1 = kind) && decide (r2 = name)) := by rw [isAbout, hr]
    cases hany : (firstL (l.take i)).any (fun x => decide (x.name = k.name)) with
    | true =>
      rw [hany, if_pos rfl] at hks
      rw [fstep, hany, if_pos rfl] at hfs
      (apply s_q; decide; rfl; (simp only [go_sem, g3, m1, hks]; rfl); apply s_nil; simp only [AThen, ABlock]; refine hK _ _ ?_; clear hK K)
      refine cond_split (by simp only [go_sem]; try rfl) (fun hd => ?_) (fun hd => ?_)
      · (apply AWp_exit; simp only [AThen, ABlock, reduceIte, Nat.reduceEqDiff]; clear hK K; refine hK _ _ ?_; clear hK K; apply s_region; (iterate 2 (apply s_q; decide; rfl; (simp only [go_sem]; rfl))); apply s_nil; simp only [AThen, ABlock])
        refine ⟨(i + 1, M2), by simp only; omega, ⟨by simp only; omega, by simp only; rw [hfs]; exact m1, by simp only; rw [aboutL, hfs]; exact m2, hE⟩, ?_, by trivial⟩
        simp only [getAll, List.map_cons, List.map_nil, AFr.get]
        rw [wrapS hlt (by omega)]; rfl
      · cases hd
    | false =>
      rw [hany, if_neg (by simp)] at hks
      rw [fstep, hany, if_neg (by simp)] at hfs
      (apply s_q; decide; rfl; (simp only [go_sem, g3, m1, hks]; rfl); apply s_nil; simp only [AThen, ABlock]; refine hK _ _ ?_; clear hK K)
      refine cond_split (by simp only [go_sem]; try rfl) (fun hd => ?_) (fun hd => ?_)
      · cases hd
      have hkp : kput k.name (.v (.bool true)) (seenEnts (firstL (l.take i))) = seenEnts (firstL (l.take (i + 1))) := by
        rw [kput_none (fun p hp => by
          obtain ⟨x, hx, rfl⟩ := List.mem_map.1 hp
          intro e
          rw [List.any_eq_true.2 ⟨x, hx, by simpa using e⟩] at hany; cases hany), hfs]
        simp [seenEnts]
      (apply AWp_skip; simp only [AThen, ABlock]; refine hK _ _ ?_; clear hK K; refine AWp_seq_k (fun K hK => ?_); apply s_region; (iterate 3 (apply s_q; decide; rfl; (simp only [go_sem, g3, m1]; rfl))); apply s_mapput; (simp only [go_sem, g3, m1]; rfl); (simp only [go_sem, g3, m1]; rfl); (simp only [go_sem, g3, m1]; rfl); (simp only [go_sem, g3, m1]; rfl); apply s_nil; simp only [AThen, ABlock]; refine hK _ _ ?_; clear hK K; refine AWp_seq_k (fun K hK => ?_); apply s_region; apply s_q; decide; rfl; (simp only [go_sem, g3, m1]; rfl))
      rw [hkp]
      have m1' := AHeap.get_put_same q1 (.smap (seenEnts (firstL (l.take (i + 1))))) M2
      have m2' := get_other (x := .smap (seenEnts (firstL (l.take (i + 1))))) m2 (Ne.symm hne)
      have g3' := get_other (x := .smap (seenEnts (firstL (l.take (i + 1))))) g3 hp1
      have hE' := Ext.over (o := .smap (seenEnts (firstL (l.take (i + 1))))) hE hq1
      generalize AHeap.put q1 (.smap (seenEnts (firstL (l.take (i + 1))))) M2 = M3 at m1' m2' g3' hE' ⊢
      (apply s_q; decide; rfl; (simp only [go_sem, g3', m1', m2']; rfl); apply s_call; decide; (simp only [go_sem, g3', m1', m2']; rfl); (simp only [go_sem, g3', m1', m2']; rfl); apply hOf; (iterate 7 (apply s_q; decide; rfl; (simp only [go_sem, g3', m1', m2']; rfl))); apply s_nil; simp only [AThen, ABlock]; refine hK _ _ ?_; clear hK K; refine AWp_seq_k (fun K hK => ?_); apply s_region; (iterate 4 (apply s_q; decide; rfl; (simp only [go_sem, g3', m1', m2']; rfl))); (iterate 2 (apply s_spec; decide; rfl; rfl; (simp only [go_sem, g3', m1', m2']; rfl); (simp only [go_sem, g3', m1', m2']; rfl); (simp only [go_sem, g3', m1', m2']; rfl); (simp only [go_sem, g3', m1', m2']; rfl); trivial)); apply s_spec; decide; rfl; rfl; (simp only [go_sem, g3', m1', m2']; rfl); (simp only [go_sem, g3', m1', m2']; rfl); (simp only [go_sem, g3', m1', m2']; rfl); (simp only [go_sem, g3', m1', m2']; rfl); simp [condsOk]; apply s_pick; decide; (simp only [go_sem, g3', m1', m2']; rfl); (simp only [go_sem, g3', m1', m2']; rfl); (simp only [go_sem, g3', m1', m2']; rfl); (simp only [go_sem, g3', m1', m2']; rfl); (simp only [go_sem, g3', m1', m2']; rfl); (simp only [go_sem, g3', m1', m2']; rfl); trivial; simp [condsOk]; trivial; apply s_nil; simp only [AThen, ABlock]; refine hK _ _ ?_; clear hK K)
      refine cond_split (by simp only [go_sem]; try rfl) (fun hf => ?_) (fun hf => ?_)
      · have hab : aboutL (l.take (i + 1)) kind name = aboutL (l.take i) kind name ++ [k] := by
          rw [aboutL, hfs, List.filter_append, aboutL]
          congr 1
          rw [List.filter_cons, hia]
          have : (decide (r1 = kind) && decide (r2 = name)) = true := by simpa using hf
          rw [this]; rfl
        have hkp2 : kput k.name (.agg k.ev.cells) (kEnts (aboutL (l.take i) kind name)) = kEnts (aboutL (l.take (i + 1)) kind name) := by
          rw [kput_none (fun p hp => by
            obtain ⟨x, hx, rfl⟩ := List.mem_map.1 hp
            intro e
            rw [List.any_eq_true.2 ⟨x, (List.mem_filter.1 hx).1, by simpa using e⟩] at hany; cases hany), hab]
          simp [kEnts]
        (apply s_region; (iterate 5 (apply s_q; decide; rfl; (simp only [go_sem, g3', m2']; rfl))); apply s_mapput; (simp only [go_sem, g3', m2']; rfl); (simp only [go_sem, g3', m2']; rfl); (simp only [go_sem, g3', m2']; rfl); (simp only [go_sem, g3', m2']; rfl); apply s_nil; simp only [AThen, ABlock]; refine hK _ _ ?_; clear hK K; apply s_region; (iterate 2 (apply s_q; decide; rfl; (simp only [go_sem, g3', m2']; rfl))); apply s_nil; simp only [AThen, ABlock])
        refine ⟨(i + 1, M3.put q2 (.smap (kEnts (aboutL (l.take (i + 1)) kind name)))), by simp only; omega, ⟨by simp only; omega, ?_, ?_, ?_⟩, ?_, ?_⟩
        · exact get_other m1' hne
        · exact AHeap.get_put_same _ _ _
        · exact Ext.over hE' hn2
        · simp only [getAll, List.map_cons, List.map_nil, AFr.get]
          rw [wrapS hlt (by omega)]; rfl
        · rw [← hkp2]; rfl
      · have hab : aboutL (l.take (i + 1)) kind name = aboutL (l.take i) kind name := by
          rw [aboutL, hfs, List.filter_append, aboutL]
          have : (decide (r1 = kind) && decide (r2 = name)) = false := by
            cases h1 : (decide (r1 = kind)) <;> cases h2 : (decide (r2 = name)) <;> simp_all
          rw [List.filter_cons, hia, this]; simp
        (apply AWp_skip; simp only [AThen, ABlock]; refine hK _ _ ?_; clear hK K; apply s_region; (iterate 2 (apply s_q; decide; rfl; (simp only [go_sem]; rfl))); apply s_nil; simp only [AThen, ABlock])
        refine ⟨(i + 1, M3), by simp only; omega, ⟨by simp only; omega, m1', by simp only; rw [hab]; exact m2', hE'⟩, ?_, by trivial⟩
        simp only [getAll, List.map_cons, List.map_nil, AFr.get]
        rw [wrapS hlt (by omega)]; rfl
  · have hge : l.length ≤ i := by simpa using hc
    rw [List.take_of_length_le hge] at m2
    (apply AWp_exit; simp only [AThen, ABlock, reduceIte, Nat.reduceEqDiff]; clear hK K; refine hK _ _ ?_; clear hK K; refine AWp_seq_k (fun K hK => ?_); apply s_region; (iterate 2 (apply s_q; decide; rfl; (simp only [go_sem]; rfl))); apply s_nil; simp only [AThen, ABlock]; refine hK _ _ ?_; clear hK K; apply AWp_ret)
    refine ⟨H.put q2 (.smap (kEnts (aboutL l kind name))), fun b o hb => ?_, h q2 hn2⟩
    rw [AHeap.get_put] at hb
    split at hb
    · rename_i e; cases hb; rw [e]; exact m2
    · exact hE _ _ hb
end Go.Proofs.Ytmloandpjbimkaa
