/-
  relate.Reactions. Contract.
-/
import Derived.Test.YtmloandpjbimkaaW25G
set_option linter.unusedSimpArgs false
set_option linter.unusedVariables false
set_option maxRecDepth 100000
namespace Go.Proofs.Ytmloandpjbimkaa
open Go Go.AL
attribute [local irreducible] AOps AWp SOps AE AT ACall AApp

abbrev HSort : Prop := SortsAt X.P 39 2 mkAgg
abbrev HKeys : Prop := SortedKeys X.P 37 56 9
theorem mkeys_c (q : Nat) (H : AHeap) (K : AV → AHeap → Prop) (h : ∀ c, H.get c = none → K (.fn (.func 56) [] [ptrTo c]) (H.put c (.box 68 [.v (.map (some q))]))) : ACall X 38 [.v (.map (some q))] H K := by
  refine ACall_intro Try.func38 rfl (by kernel_rfl) (by rw [Try.ntmps38]; simp) ?_; rw [Try.ntmps38]; simp only [frame0, Nat.reduceAdd]
  (refine AWp_seq_k (fun K hK => ?_); apply s_region; apply s_box; decide; (simp only [go_sem]; rfl); (simp only [go_sem]; rfl); intro b hb; apply s_q; decide; rfl; (simp only [go_sem]; rfl); apply s_nil; simp only [AThen, ABlock]; refine hK _ _ ?_; clear hK K; refine AWp_seq_k (fun K hK => ?_); apply s_region; (iterate 2 (apply s_q; decide; rfl; (simp only [go_sem]; rfl))); apply s_nil; simp only [AThen, ABlock]; refine hK _ _ ?_; clear hK K; apply AWp_ret)
  exact h _ (by assumption)
def trues (l : List (List UInt8)) : List (List UInt8 × AV) := l.map fun u => (u, .v (.bool true))
theorem sorted_c (hKy : HKeys) (B q : Nat) (us : List (List UInt8)) (hn : us.length ≤ 1000000) (hl : ∀ u ∈ us, u.length ≤ 4611686018427387904) (H : AHeap) (hB : H.get B = some (.box 68 [.v (.map (some q))])) (hq : H.get q = some (.smap (trues us))) (K : AV → AHeap → Prop) (h : K (.sl false ((sortL us).map strCells)) H) :
    ACall X 37 [.fn (.func 56) [] [ptrTo B]] H K := by
  refine ACall.gr (e := 9) (sz := 1) h ?_
  refine ACall_sortedKeysG (fun h => h) hKy Try.underlying9 (by kernel_rfl) hB hq (by simp [trues]; omega) ?_ (fun a L hG => ⟨H, Ext.refl H, ?_⟩)
  · intro p hp
    obtain ⟨u, hu, rfl⟩ := List.mem_map.1 hp
    exact Nat.le_trans (hl u hu) (by decide)
  · have e : (trues us).map (·.1) = us := by simp [trues, Function.comp_def]
    rw [e] at hG
    exact hG
theorem kfind_fun {ff : List UInt8 → AV} {k : List UInt8} : ∀ {l : List (List UInt8)}, kfind k (l.map fun x => (x, ff x)) = if k ∈ l then some (ff k) else none
  | [] => rfl
  | a :: l => by
    simp only [List.map_cons, kfind]
    by_cases h : a = k
    · subst h; simp
    · rw [if_neg h, kfind_fun (ff := ff) (k := k) (l := l)]
      have : k ∈ a :: l ↔ k ∈ l := by simp [Ne.symm h]
      simp only [this]
theorem kput_trues (s : List UInt8) (l : List (List UInt8)) : kput s (.v (.bool true)) (trues l) = trues (dstep l s) := by
  unfold dstep
  split
  · rename_i h
    obtain ⟨j, hj⟩ := List.mem_iff_getElem?.1 h
    clear h
    induction l generalizing j with
    | nil => simp at hj
    | cons a l ih =>
      simp only [trues, List.map_cons, kput]
      by_cases e : a = s
      · rw [if_pos e, e]
      · rw [if_neg e]
        cases j with
        | zero => simp at hj; exact absurd hj e
        | succ j =>
          have := ih j (by simpa using hj)
          simp only [trues] at this
          rw [this]
  · rename_i h
    rw [kput_none]
    · simp [trues]
    · intro p hp
      obtain ⟨u, hu, rfl⟩ := List.mem_map.1 hp
      rintro rfl; exact h hu
/-- the map of maps: key, where its users' map lies -/
def mEnts (V : List Kn) (qo : List UInt8 → Nat) : List (List UInt8 × AV) := (keysOf V).map fun q => (q, .v (.map (some (qo q))))
/-- the maps of users, as far as they were built -/
def MapsAt (L : AHeap) (V : List Kn) (qo : List UInt8 → Nat) (pu : Nat) (H : AHeap) : Prop :=
  L.get pu = some (.smap (mEnts V qo)) ∧ (∀ q ∈ keysOf V, L.get (qo q) = some (.smap (trues (usersOf V q))) ∧ H.get (qo q) = none ∧ qo q ≠ pu) ∧ (∀ q ∈ keysOf V, ∀ q' ∈ keysOf V, qo q = qo q' → q = q')
set_option maxHeartbeats 8000000 in
theorem reactions_c (hS : HSort) (hKy : HKeys) (t : Bool) (l : List Kn) (name : List UInt8) (hl : l.length ≤ 1000000) (hok : ∀ k ∈ l, k.Ok) (hsn : ∀ k ∈ l, k.ev.sender.length ≤ 4611686018427387904) (H : AHeap) (K : AV → AHeap → Prop) (h : K (.sl false ((reactL l name).map Cnt.cells)) H) :
    ACall X 16 [.sl t (l.map Kn.cells), .s name] H K := by
  refine ACall.gr (e := 50) (sz := 2) h ?_
  refine ACall_intro Try.func16 rfl (by kernel_rfl) (by rw [Try.ntmps16]; simp) ?_; rw [Try.ntmps16]; simp only [frame0, Nat.reduceAdd]
  refine AWp_seq_k (fun K hK => ?_); apply s_region
  (apply s_q; decide; rfl; (simp only [go_sem]; rfl); apply s_nil; simp only [AThen, ABlock]; refine hK _ _ ?_; clear hK K; refine AWp_seq_k (fun K hK => ?_); apply s_region; apply s_smap; decide; exact mp_67; intro b hb; apply s_q; decide; rfl; (simp only [go_sem]; rfl); apply s_nil; simp only [AThen, ABlock]; refine hK _ _ ?_; clear hK K; (iterate 2 (refine AWp_seq_k (fun K hK => ?_))); apply s_region; (iterate 2 (apply s_q; decide; rfl; (simp only [go_sem]; rfl))))
  obtain ⟨pu, hnewq⟩ : ∃ q, q = b := ⟨_, rfl⟩; have hpu := hb; rw [← hnewq] at hpu ⊢; clear hb hnewq; try clear he; clear b
  generalize hgenq : AHeap.put pu _ H = M; obtain ⟨g1, hextq⟩ := gen_ex hgenq hpu; have hE := hextq; clear hextq hgenq
  (apply s_call; decide; (simp only [go_sem]; rfl); (simp only [go_sem]; rfl); apply about_c t l kReact name hl hok; intro q hq)
  have hHq : H.get q = none := none_of_ext hE hq
  have hpq : pu ≠ q := by rintro rfl; rw [g1] at hq; cases hq
  generalize hgenq : AHeap.put q _ M = M2; obtain ⟨gq, hextq⟩ := gen_ex hgenq hq; have g1 := hextq _ _ g1; have hE := Ext.trans hE hextq; clear hextq hgenq
  obtain ⟨A, hA⟩ : ∃ A, aboutL l kReact name = A := ⟨_, rfl⟩
  rw [hA] at gq
  have hAs : ∀ k ∈ A, k ∈ l := fun k hk => about_sub (hA ▸ hk)
  have hAl : A.length ≤ 1000000 := by rw [← hA]; exact Nat.le_trans (Nat.le_trans (List.length_filter_le _ _) (firstL_len l)) hl
  apply s_rangeD; decide; exact Try.underlying62; exact (by simp only [go_sem]; try rfl); exact gq
  intro ents clock r hsz hbn hr
  have hne : (kEnts A).length = A.length := by simp [kEnts]
  rw [hne] at hsz ⊢
  have hHr : H.get r = none := none_of_ext hE hr
  have hrq : r ≠ q := by rintro rfl; rw [gq] at hr; cases hr
  have hrp : r ≠ pu := by rintro rfl; rw [g1] at hr; cases hr
  have hE2 := Ext.over (o := .walk q ents clock []) (Ext.over (o := struck ents clock (kEnts A) (List.range A.length)) hE hHq) hHr
  have f1 : ((M2.put q (struck ents clock (kEnts A) (List.range A.length))).put r (.walk q ents clock [])).get q = some (struck ents clock (kEnts A) (List.range A.length)) := by rw [AHeap.get_put_ne _ _ (Ne.symm hrq)]; exact AHeap.get_put_same _ _ _
  have f2 : ((M2.put q (struck ents clock (kEnts A) (List.range A.length))).put r (.walk q ents clock [])).get r = some (.walk q ents clock []) := AHeap.get_put_same _ _ _
  have f3 : ((M2.put q (struck ents clock (kEnts A) (List.range A.length))).put r (.walk q ents clock [])).get pu = some (.smap []) := by rw [AHeap.get_put_ne _ _ (Ne.symm hrp), AHeap.get_put_ne _ _ hpq]; exact g1
  generalize (M2.put q (struck ents clock (kEnts A) (List.range A.length))).put r (.walk q ents clock []) = L0 at hE2 f1 f2 f3 ⊢
  (apply s_nil; simp only [AThen, ABlock]; refine hK _ _ ?_; clear hK K; apply AWp_block)
  refine AWp_loop_s (σ := List Nat × (List UInt8 → Nat) × AHeap) [5, 18] (fun s => [.v (.map (some pu)), ptrTo r]) (fun s => s.2.2) (fun s => A.length - s.1.length)
    (fun s => (s.1.Nodup ∧ ∀ i ∈ s.1, i < A.length) ∧ s.2.2.get q = some (struck ents clock (kEnts A) (List.range A.length)) ∧ s.2.2.get r = some (.walk q ents clock s.1) ∧ MapsAt s.2.2 (atL s.1 A) s.2.1 pu H ∧ Ext H s.2.2)
    ([], fun _ => 0, L0) ⟨⟨.nil, by simp⟩, f1, f2, ⟨f3, by simp [atL, keysOf, dedupL], by simp [atL, keysOf, dedupL]⟩, hE2⟩ rfl rfl (fun s hs => ?_)
  clear f1 f2 f3 hE2 hE gq g1 hr
  obtain ⟨is, qo, L⟩ := s
  obtain ⟨⟨hnis, hlis⟩, f1, f2, ⟨f3, f4, f5⟩, hE⟩ := hs
  simp only [List.zip_cons_cons, List.zip_nil_right] at hnis hlis f1 f2 f3 f4 f5 hE ⊢
  refine AWp_seq_k (fun K hK => ?_); apply s_region
  have hrg : ∀ i ∈ List.range A.length, i < (kEnts A).length := fun i hi => by rw [hne]; exact List.mem_range.1 hi
  apply s_nextD; decide; exact (by simp only [go_sem]; try rfl); exact f2; exact f1; rw [hne]; exact hsz; exact hbn; exact hrg; (intro i hi; rw [hne]; exact hlis i hi)
  · intro hall
    (apply s_q; decide; rfl; (simp only [go_sem]; rfl); apply s_nil; simp only [AThen, ABlock]; refine hK _ _ ?_; clear hK K; refine AWp_seq_k (fun K hK => ?_))
    refine cond_split (by simp only [go_sem]; try rfl) (fun hc => ?_) (fun hc => ?_)
    · cases hc
    (apply AWp_exit; simp only [AThen, ABlock, reduceIte, Nat.reduceEqDiff]; clear hK K; refine hK _ _ ?_; clear hK K; refine AWp_seq_k (fun K hK => ?_); apply s_region; apply s_q; decide; rfl; (simp only [go_sem]; rfl); apply s_nil; simp only [AThen, ABlock]; refine hK _ _ ?_; clear hK K; (iterate 2 (refine AWp_seq_k (fun K hK => ?_))); apply s_region; apply s_q; decide; rfl; (simp only [go_sem]; rfl))
    obtain ⟨V, hV⟩ : ∃ V, atL is A = V := ⟨_, rfl⟩
    rw [hV] at f3 f4 f5
    have hVA : ∀ x, x ∈ V ↔ x ∈ A := fun x => by
      rw [← hV]
      constructor
      · intro hx
        obtain ⟨i, _, hix⟩ := atL_sub hx
        exact List.mem_of_getElem? hix
      · intro hx
        obtain ⟨i, hix⟩ := List.mem_iff_getElem?.1 hx
        have hil := (List.getElem?_eq_some_iff.1 hix).1
        exact List.mem_filterMap.2 ⟨i, hall i (List.mem_range.2 hil), hix⟩
    have hVl : V.length ≤ 1000000 := by rw [← hV, atL_len hlis]; have := nodup_nat_le hnis hlis; omega
    have hkl : (keysOf V).length ≤ 1000000 := by
      have := dedup_len (V.map rkey)
      rw [List.length_map] at this
      exact Nat.le_trans this hVl
    have hul : ∀ x, (usersOf V x).length ≤ 1000000 := fun x => by
      have := dedup_len ((V.filter fun k => decide (rkey k = x)).map (·.ev.sender))
      rw [List.length_map] at this
      exact Nat.le_trans this (Nat.le_trans (List.length_filter_le _ _) hVl)
    have hus : ∀ x, ∀ u ∈ usersOf V x, u.length ≤ 4611686018427387904 := fun x u hu => by
      obtain ⟨k, hk, _, rfl⟩ := mem_users.1 hu
      exact hsn k (hAs k ((hVA k).1 hk))
    apply s_rangeD; decide; exact Try.underlying67; exact (by simp only [go_sem]; try rfl); exact f3
    intro ents2 clock2 r2 hsz2 hbn2 hr2
    have hne2 : (mEnts V qo).length = (keysOf V).length := by simp [mEnts]
    rw [hne2] at hsz2 ⊢
    have hHr2 : H.get r2 = none := none_of_ext hE hr2
    have hrp2 : r2 ≠ pu := by rintro rfl; rw [f3] at hr2; cases hr2
    have hE2 := Ext.over (o := .walk pu ents2 clock2 []) (Ext.over (o := struck ents2 clock2 (mEnts V qo) (List.range (keysOf V).length)) hE hpu) hHr2
    have e1 : ((L.put pu (struck ents2 clock2 (mEnts V qo) (List.range (keysOf V).length))).put r2 (.walk pu ents2 clock2 [])).get pu = some (struck ents2 clock2 (mEnts V qo) (List.range (keysOf V).length)) := by rw [AHeap.get_put_ne _ _ (Ne.symm hrp2)]; exact AHeap.get_put_same _ _ _
    have e2 : ((L.put pu (struck ents2 clock2 (mEnts V qo) (List.range (keysOf V).length))).put r2 (.walk pu ents2 clock2 [])).get r2 = some (.walk pu ents2 clock2 []) := AHeap.get_put_same _ _ _
    have e3 : ∀ x ∈ keysOf V, ((L.put pu (struck ents2 clock2 (mEnts V qo) (List.range (keysOf V).length))).put r2 (.walk pu ents2 clock2 [])).get (qo x) = some (.smap (trues (usersOf V x))) := fun x hx => by
      obtain ⟨b1, b2, b3⟩ := f4 x hx
      have : qo x ≠ r2 := fun e => by rw [e, hr2] at b1; cases b1
      rw [AHeap.get_put_ne _ _ this, AHeap.get_put_ne _ _ b3]; exact b1
    generalize (L.put pu (struck ents2 clock2 (mEnts V qo) (List.range (keysOf V).length))).put r2 (.walk pu ents2 clock2 []) = L2 at hE2 e1 e2 e3 ⊢
    clear f1 f2 hE hr2 f3 f5
    (apply s_nil; simp only [AThen, ABlock]; refine hK _ _ ?_; clear hK K; apply AWp_block)
    refine AWp_loop_s (σ := List Nat × AV × AHeap) [11, 42] (fun s => [s.2.1, ptrTo r2]) (fun s => s.2.2) (fun s => (keysOf V).length - s.1.length)
      (fun s => (s.1.Nodup ∧ ∀ i ∈ s.1, i < (keysOf V).length) ∧ s.2.2.get pu = some (struck ents2 clock2 (mEnts V qo) (List.range (keysOf V).length)) ∧ s.2.2.get r2 = some (.walk pu ents2 clock2 s.1) ∧ (∀ x ∈ keysOf V, s.2.2.get (qo x) = some (.smap (trues (usersOf V x)))) ∧ RowAt 50 2 H s.2.2 ((atL s.1 (cntsOf V)).map Cnt.cells) s.2.1 ∧ Ext H s.2.2)
      ([], .sl true [], L2) ⟨⟨.nil, by simp⟩, e1, e2, e3, RowAt.nil _ _ _ _, hE2⟩ rfl rfl (fun s hs => ?_)
    clear e1 e2 e3 hE2
    obtain ⟨is2, a, L3⟩ := s
    obtain ⟨⟨hn2, hl2⟩, e1, e2, e3, hR, hE⟩ := hs
    simp only [List.zip_cons_cons, List.zip_nil_right] at hn2 hl2 e1 e2 e3 hR hE ⊢
    have hcl : (cntsOf V).length = (keysOf V).length := by simp [cntsOf]
    refine AWp_seq_k (fun K hK => ?_); apply s_region
    have hrg2 : ∀ i ∈ List.range (keysOf V).length, i < (mEnts V qo).length := fun i hi => by rw [hne2]; exact List.mem_range.1 hi
    apply s_nextD; decide; exact (by simp only [go_sem]; try rfl); exact e2; exact e1; rw [hne2]; exact hsz2; exact hbn2; exact hrg2; (intro i hi; rw [hne2]; exact hl2 i hi)
    · intro hall2
      (apply s_q; decide; rfl; (simp only [go_sem]; rfl); apply s_nil; simp only [AThen, ABlock]; refine hK _ _ ?_; clear hK K; refine AWp_seq_k (fun K hK => ?_))
      refine cond_split (by simp only [go_sem]; try rfl) (fun hc => ?_) (fun hc => ?_)
      · cases hc
      obtain ⟨W, hW⟩ : ∃ W, atL is2 (cntsOf V) = W := ⟨_, rfl⟩
      rw [hW] at hR
      have hWp : W.Perm (cntsOf V) := by
        rw [← hW]
        have hp : is2.Perm (List.range (cntsOf V).length) := (List.perm_ext_iff_of_nodup hn2 List.nodup_range).2 (fun a => by
          rw [List.mem_range, hcl]; exact ⟨hl2 a, fun h => hall2 a (List.mem_range.2 h)⟩)
        have := hp.filterMap ((cntsOf V)[·]?)
        have h2 := atL_range (cntsOf V)
        unfold atL at h2 ⊢
        rwa [h2] at this
      have hWl : W.length ≤ 1000000 := by rw [hWp.length_eq, hcl]; exact hkl
      have cAt : ∀ i j a b, W[i]? = some a → W[j]? = some b → cmpC (W.getD i ⟨[], []⟩) (W.getD j ⟨[], []⟩) = cmpC a b := fun i j a b h k => by
        simp [List.getD_eq_getElem?_getD, h, k]
      have hone2 : ∀ x ∈ W.map Cnt.cells, x.all AV.one = true := fun x hx => by obtain ⟨c, _, rfl⟩ := List.mem_map.1 hx; rfl
      have hlen2 : (W.map Cnt.cells).length < 4611686018427387904 := by rw [List.length_map]; omega
      (apply AWp_exit; simp only [AThen, ABlock, reduceIte, Nat.reduceEqDiff]; clear hK K; refine hK _ _ ?_; clear hK K; refine AWp_seq_k (fun K hK => ?_); apply s_region; apply s_q; decide; rfl; (simp only [go_sem]; rfl); apply s_call; decide; (simp only [go_sem]; rfl); (simp only [go_sem]; rfl); apply ACall_sortAt (c := fun i j => cmpC (W.getD i ⟨[], []⟩) (W.getD j ⟨[], []⟩)) hS (by kernel_rfl) (by kernel_rfl) mk_agg hE hR hlen2 hone2)
      · refine ⟨fun i hi => ?_, fun i j k hi hj hk h1 h2 => ?_, fun i j k hi hj hk h1 h2 => ?_⟩
        · exact fun h => ahead_irr _ (cmpC_lt.1 h)
        · exact cmpC_lt.2 (ahead_tr (cmpC_lt.1 h1) (cmpC_lt.1 h2))
        · exact fun h => notAhead_tr (fun h => h1 (cmpC_lt.2 h)) (fun h => h2 (cmpC_lt.2 h)) (cmpC_lt.1 h)
      · intro i j x y hx hy Kc hKc
        rw [List.getElem?_map, Option.map_eq_some_iff] at hx hy
        obtain ⟨a1, ha1, rfl⟩ := hx
        obtain ⟨a2, ha2, rfl⟩ := hy
        rw [cAt i j a1 a2 ha1 ha2] at hKc
        exact cmpC_c a1 a2 _ _ hKc
      · intro p L4 hp hsd hR2 hE4 hK2
        rw [List.length_map] at hp
        have hpl : ∀ i ∈ p, i < W.length := fun i hi => by simpa using hp.mem_iff.1 hi
        have q1 : (p.map fun i => (W.map Cnt.cells).getD i []) = (p.map fun i => W.getD i ⟨[], []⟩).map Cnt.cells := by
          rw [List.map_map]
          apply List.map_congr_left
          intro i hi
          have := hpl i hi
          simp [this]
        have q2 : (p.map fun i => W.getD i ⟨[], []⟩) = reactL l name := by
          rw [reactL, hA]
          have hpW : (p.map fun i => W.getD i ⟨[], []⟩).Perm W := by
            have h1 := hp.map (fun i => W.getD i ⟨[], []⟩)
            have h2 : (List.range W.length).map (fun i => W.getD i ⟨[], []⟩) = W := by
              apply List.ext_getElem?
              intro i
              by_cases hi : i < W.length
              · simp [hi]
              · simp [hi]
            rwa [h2] at h1
          refine sortC_eq (cnts_nodup A) (hpW.trans (hWp.trans (cnts_congr hVA))) ?_
          rw [List.pairwise_map, List.pairwise_iff_getElem]
          intro i j hi hj hij
          have h1 := hsd i j _ _ hij (List.getElem?_eq_getElem hi) (List.getElem?_eq_getElem hj)
          rw [leC_iff]
          exact fun h => h1 (cmpC_lt.2 h)
        rw [q1, q2] at hR2
        (apply s_nil; simp only [AThen, ABlock]; refine hK _ _ ?_; clear hK K; refine AWp_seq_k (fun K hK => ?_); apply s_region; (iterate 2 (apply s_q; decide; rfl; (simp only [go_sem]; rfl))); apply s_nil; simp only [AThen, ABlock]; refine hK _ _ ?_; clear hK K; apply AWp_ret)
        exact hR2.toGr hE4
    · intro i x v hir hi hiv
      obtain ⟨y, hx⟩ := gete (l := keysOf V) (i := i) (List.mem_range.1 hir)
      have hkv : (x, v) = (y, AV.v (.map (some (qo y)))) := by
        rw [mEnts, List.getElem?_map, hx] at hiv; simpa using hiv.symm
      cases hkv
      have hxm := List.mem_of_getElem? hx
      obtain ⟨m1, m2, m3⟩ := seen_more hn2 hl2 hi (List.mem_range.1 hir)
      have hcx : (cntsOf V)[i]? = some ⟨x, sendersOf V x⟩ := by rw [cntsOf, List.getElem?_map, hx]; rfl
      have hat : atL (is2 ++ [i]) (cntsOf V) = atL is2 (cntsOf V) ++ [⟨x, sendersOf V x⟩] := by unfold atL; rw [List.filterMap_append]; simp [hcx]
      obtain ⟨W, hW⟩ : ∃ W, atL is2 (cntsOf V) = W := ⟨_, rfl⟩
      rw [hW] at hat hR
      have hWl : W.length ≤ 1000000 := by rw [← hW, atL_len (fun i hi => by rw [hcl]; exact hl2 i hi)]; have := nodup_nat_le hn2 hl2; omega
      have hqr : ∀ y ∈ keysOf V, qo y ≠ r2 := fun y hy e => by have := e3 y hy; rw [e, e2] at this; cases this
      have g1 := get_other (x := .walk pu ents2 clock2 (is2 ++ [i])) e1 (Ne.symm hrp2)
      have g2 := AHeap.get_put_same r2 (.walk pu ents2 clock2 (is2 ++ [i])) L3
      have g3 : ∀ y ∈ keysOf V, (L3.put r2 (.walk pu ents2 clock2 (is2 ++ [i]))).get (qo y) = some (.smap (trues (usersOf V y))) := fun y hy => get_other (e3 y hy) (hqr y hy)
      have hR2 := hR.put e2 (fun _ _ _ h => by cases h) (o' := .walk pu ents2 clock2 (is2 ++ [i]))
      have hE2 := Ext.over (o := .walk pu ents2 clock2 (is2 ++ [i])) hE hHr2
      generalize AHeap.put r2 (.walk pu ents2 clock2 (is2 ++ [i])) L3 = M6 at g1 g2 g3 hR2 hE2 ⊢
      (apply s_q; decide; rfl; (simp only [go_sem]; rfl); apply s_nil; simp only [AThen, ABlock]; refine hK _ _ ?_; clear hK K; refine AWp_seq_k (fun K hK => ?_))
      refine cond_split (by simp only [go_sem]; try rfl) (fun hc => ?_) (fun hc => ?_)
      rotate_left
      · cases hc
      (apply AWp_skip; simp only [AThen, ABlock]; refine hK _ _ ?_; clear hK K; apply AWp_block; refine AWp_seq_k (fun K hK => ?_); apply s_region)
      apply s_entryD; decide; exact (by simp only [go_sem]; try rfl); exact g2; exact g1; rw [hne2]; exact hsz2; exact hrg2; exact hir; exact hiv
      ((iterate 4 (apply s_q; decide; rfl; (simp only [go_sem]; rfl))); apply s_nil; simp only [AThen, ABlock]; refine hK _ _ ?_; clear hK K; apply s_region; (iterate 3 (apply s_q; decide; rfl; (simp only [go_sem]; rfl))); apply s_call; decide; (simp only [go_sem]; rfl); (simp only [go_sem]; rfl); apply mkeys_c; intro B hB)
      have gB := AHeap.get_put_same B (.box 68 [.v (.map (some (qo x)))]) M6
      have gQ := get_fresh (x := .box 68 [.v (.map (some (qo x)))]) (g3 x hxm) hB
      have gx1 := get_fresh (x := .box 68 [.v (.map (some (qo x)))]) g1 hB
      have gx2 := get_fresh (x := .box 68 [.v (.map (some (qo x)))]) g2 hB
      have gx3 : ∀ y ∈ keysOf V, (M6.put B (.box 68 [.v (.map (some (qo x)))])).get (qo y) = some (.smap (trues (usersOf V y))) := fun y hy => get_fresh (g3 y hy) hB
      have hR3 := hR2.ext (Ext.fresh hB (o := .box 68 [.v (.map (some (qo x)))]))
      have hE3 := hE2.put hB (ob := .box 68 [.v (.map (some (qo x)))])
      generalize M6.put B (.box 68 [.v (.map (some (qo x)))]) = M7 at gB gQ gx1 gx2 gx3 hR3 hE3 ⊢
      (apply s_call; decide; (simp only [go_sem]; rfl); (simp only [go_sem]; rfl); apply sorted_c hKy B (qo x) (usersOf V x) (hul x) (hus x) M7 gB gQ; apply s_q; decide; rfl; (simp only [go_sem]; rfl); apply s_lit; decide; exact el_41; (simp only [go_sem]; rfl); (simp only [go_sem]; rfl); decide; apply s_append; decide; (simp only [go_sem]; rfl); (simp only [go_sem]; rfl); apply AApp_at el_41 hE3 hR3 (l := W) (m := [⟨x, sendersOf V x⟩]) (g := Cnt.cells) rfl rfl tk_41 cnt_one (by simp; omega) (by simp; omega); intro a2 L5 hR4 hE4 hK4; apply s_q; decide; rfl; (simp only [go_sem]; rfl); apply s_nil; simp only [AThen, ABlock])
      have nr : ∀ (o : AObj), (∀ sz sn es, o ≠ .row 50 sz sn es) → True := fun _ _ => trivial
      refine ⟨(is2 ++ [i], a2, L5), m3, ⟨⟨m1, m2⟩, hK4 _ _ gx1 (fun _ _ _ h => by unfold struck at h; cases h), hK4 _ _ gx2 (fun _ _ _ h => by cases h), fun y hy => hK4 _ _ (gx3 y hy) (fun _ _ _ h => by cases h), ?_, hE4⟩, rfl, rfl⟩
      simp only; rw [hat]; exact hR4
  · intro i kk v hir hi hiv
    obtain ⟨k, hk⟩ := gete (l := A) (i := i) (List.mem_range.1 hir)
    have hkA := hAs k (List.mem_of_getElem? hk)
    have hkl : k.ev.content.Len := hok k hkA
    have hkv : (kk, v) = (k.name, AV.agg k.ev.cells) := by
      rw [kEnts, List.getElem?_map, hk] at hiv; simpa using hiv.symm
    cases hkv
    obtain ⟨m1, m2, m3⟩ := seen_more hnis hlis hi (List.mem_range.1 hir)
    have hat : atL (is ++ [i]) A = atL is A ++ [k] := by unfold atL; rw [List.filterMap_append]; simp [hk]
    obtain ⟨V, hV⟩ : ∃ V, atL is A = V := ⟨_, rfl⟩
    rw [hV] at f3 f4 f5 hat
    have hrp' : pu ≠ r := Ne.symm hrp
    have hqr : ∀ x ∈ keysOf V, qo x ≠ r := fun x hx e => by have := (f4 x hx).1; rw [e, f2] at this; cases this
    have g1 := get_other (x := .walk q ents clock (is ++ [i])) f1 (Ne.symm hrq)
    have g2 := AHeap.get_put_same r (.walk q ents clock (is ++ [i])) L
    have g3 := get_other (x := .walk q ents clock (is ++ [i])) f3 hrp'
    have g4 : ∀ x ∈ keysOf V, (L.put r (.walk q ents clock (is ++ [i]))).get (qo x) = some (.smap (trues (usersOf V x))) := fun x hx => get_other (f4 x hx).1 (hqr x hx)
    have hE2 := Ext.over (o := .walk q ents clock (is ++ [i])) hE hHr
    generalize AHeap.put r (.walk q ents clock (is ++ [i])) L = M1 at g1 g2 g3 g4 hE2 ⊢
    (apply s_q; decide; rfl; (simp only [go_sem]; rfl); apply s_nil; simp only [AThen, ABlock]; refine hK _ _ ?_; clear hK K; refine AWp_seq_k (fun K hK => ?_))
    refine cond_split (by simp only [go_sem]; try rfl) (fun hc => ?_) (fun hc => ?_)
    rotate_left
    · cases hc
    (apply AWp_skip; simp only [AThen, ABlock]; refine hK _ _ ?_; clear hK K; apply AWp_block; refine AWp_seq_k (fun K hK => ?_); apply s_region)
    apply s_entryD; decide; exact (by simp only [go_sem]; try rfl); exact g2; exact g1; rw [hne]; exact hsz; exact hrg; exact hir; exact hiv
    simp only [Ev.cells]
    obtain ⟨r1, r2, hr3⟩ : ∃ r1 r2, relOf k.ev = (r1, r2, rkey k) := ⟨_, _, rfl⟩
    have hOf : ∀ (H : AHeap) (K : AV → AHeap → Prop), K (.tup [.s r1, .s r2, .s (rkey k)]) H → ACall X 10 [.agg k.ev.cells] H K := fun H K hk => of_c25 k.ev hkl H K (by rw [hr3]; exact hk)
    (apply s_q; decide; rfl; (simp only [go_sem]; rfl); apply s_alloc; decide; exact zc_28; intro b hb; apply s_store; (simp only [go_sem]; rfl); (simp only [go_sem]; rfl); (simp only [go_sem]; rfl); apply s_nil; simp only [AThen, ABlock]; refine hK _ _ ?_; clear hK K; refine AWp_seq_k (fun K hK => ?_); apply s_region; apply s_q; decide; rfl; (simp only [go_sem]; rfl))
    obtain ⟨p7, hnewq⟩ : ∃ q, q = b := ⟨_, rfl⟩; have hp7 := hb; rw [← hnewq] at hp7 ⊢; clear hb hnewq; try clear he; clear b
    generalize hgenq : AHeap.put p7 _ M1 = M4; obtain ⟨g7, hextq⟩ := gen_ex hgenq hp7; have g1 := hextq _ _ g1; have g2 := hextq _ _ g2; have g3 := hextq _ _ g3; have hX := hextq; clear hextq hgenq
    have g4' : ∀ x ∈ keysOf V, M4.get (qo x) = some (.smap (trues (usersOf V x))) := fun x hx => hX _ _ (g4 x hx)
    have hE3 := Ext.trans hE2 hX
    (apply s_call; decide; (simp only [go_sem, g7]; rfl); (simp only [go_sem, g7]; rfl); apply hOf; (iterate 7 (apply s_q; decide; rfl; (simp only [go_sem, g7]; rfl))); apply s_nil; simp only [AThen, ABlock]; refine hK _ _ ?_; clear hK K; (iterate 2 (refine AWp_seq_k (fun K hK => ?_))); apply s_region; (iterate 2 (apply s_q; decide; rfl; (simp only [go_sem, g7]; rfl))))
    have hst : ∀ es', struck ents clock (kEnts A) (List.range A.length) ≠ .smap es' := fun es' e => by unfold struck at e; cases e
    have hfin : ∀ (qo' : List UInt8 → Nat) (M5 : AHeap), M5.get q = some (struck ents clock (kEnts A) (List.range A.length)) → M5.get r = some (.walk q ents clock (is ++ [i])) → MapsAt M5 (V ++ [k]) qo' pu H → Ext H M5 →
        (fun s : List Nat × (List UInt8 → Nat) × AHeap => (s.1.Nodup ∧ ∀ i ∈ s.1, i < A.length) ∧ s.2.2.get q = some (struck ents clock (kEnts A) (List.range A.length)) ∧ s.2.2.get r = some (.walk q ents clock s.1) ∧ MapsAt s.2.2 (atL s.1 A) s.2.1 pu H ∧ Ext H s.2.2) (is ++ [i], qo', M5) :=
      fun qo' M5 a1 a2 a3 a4 => ⟨⟨m1, m2⟩, a1, a2, by simp only; rw [hat]; exact a3, a4⟩
    by_cases hin : rkey k ∈ keysOf V
    · have hkf : kfind (rkey k) (mEnts V qo) = some (.v (.map (some (qo (rkey k))))) := by rw [mEnts, kfind_fun, if_pos hin]
      have g5 := g4' _ hin
      obtain ⟨_, hq0, hqp⟩ := f4 _ hin
      have hkt : kput k.ev.sender (.v (.bool true)) (trues (usersOf V (rkey k))) = trues (usersOf (V ++ [k]) (rkey k)) := by rw [kput_trues, users_snoc, if_pos rfl]
      have hks : keysOf (V ++ [k]) = keysOf V := by rw [keys_snoc, dstep, if_pos hin]
      have hne1 : q ≠ qo (rkey k) := fun e => by rw [← e, g1] at g5; exact hst _ (Option.some.inj g5)
      have hne2 : r ≠ qo (rkey k) := fun e => by rw [← e, g2] at g5; cases g5
      ((iterate 2 (apply s_q; decide; rfl; (simp only [go_sem, g3, hkf, g7]; rfl))); apply s_nil; simp only [AThen, ABlock]; refine hK _ _ ?_; clear hK K)
      refine cond_split (by simp only [go_sem]; try rfl) (fun hd => ?_) (fun hd => ?_)
      · cases hd
      (apply AWp_skip; simp only [AThen, ABlock]; refine hK _ _ ?_; clear hK K; apply s_region; (iterate 5 (apply s_q; decide; rfl; (simp only [go_sem, g3, hkf, g7, g5, hkt]; rfl))); apply s_mapput; (simp only [go_sem, g3, hkf, g7, g5, hkt]; rfl); (simp only [go_sem, g3, hkf, g7, g5, hkt]; rfl); (simp only [go_sem, g3, hkf, g7, g5, hkt]; rfl); (simp only [go_sem, g3, hkf, g7, g5, hkt]; rfl); apply s_nil; simp only [AThen, ABlock])
      refine ⟨(is ++ [i], qo, M4.put (qo (rkey k)) (.smap (trues (usersOf (V ++ [k]) (rkey k))))), m3, hfin qo _ (get_other g1 hne1) (get_other g2 hne2) ⟨?_, fun x hx => ?_, ?_⟩ (Ext.over hE3 hq0), rfl, rfl⟩
      · rw [mEnts, hks]; exact get_other g3 (Ne.symm hqp)
      · rw [hks] at hx
        obtain ⟨b1, b2, b3⟩ := f4 x hx
        refine ⟨?_, b2, b3⟩
        by_cases e : rkey k = x
        · subst e; exact AHeap.get_put_same _ _ _
        · have hux : usersOf (V ++ [k]) x = usersOf V x := by rw [users_snoc, if_neg e]
          rw [hux]; exact get_other (g4' x hx) (fun e2 => e (f5 x hx _ hin e2).symm)
      · rw [hks]; exact f5
    · have hkf : kfind (rkey k) (mEnts V qo) = none := by rw [mEnts, kfind_fun, if_neg hin]
      have hks : keysOf (V ++ [k]) = keysOf V ++ [rkey k] := by rw [keys_snoc, dstep, if_neg hin]
      have hus : usersOf (V ++ [k]) (rkey k) = [k.ev.sender] := by
        rw [users_snoc, if_pos rfl]
        have : usersOf V (rkey k) = [] := List.eq_nil_iff_forall_not_mem.2 fun u hu => by
          obtain ⟨k', h1, h2, _⟩ := mem_users.1 hu
          exact hin (mem_keys.2 ⟨k', h1, h2⟩)
        rw [this]; rfl
      ((iterate 2 (apply s_q; decide; rfl; (simp only [go_sem, g3, hkf, g7]; rfl))); apply s_nil; simp only [AThen, ABlock]; refine hK _ _ ?_; clear hK K)
      refine cond_split (by simp only [go_sem]; try rfl) (fun hd => ?_) (fun hd => ?_)
      rotate_left
      · cases hd
      (apply s_region; (iterate 2 (apply s_q; decide; rfl; (simp only [go_sem, g3, hkf, g7]; rfl))); apply s_smap; decide; exact mp_68; intro b hb)
      obtain ⟨q2, hnewq⟩ : ∃ q, q = b := ⟨_, rfl⟩; have hq2 := hb; rw [← hnewq] at hq2 ⊢; clear hb hnewq; try clear he; clear b
      have hHq2 : H.get q2 = none := none_of_ext hE3 hq2
      have hn1 : q2 ≠ pu := by rintro rfl; rw [g3] at hq2; cases hq2
      have hn2 : q ≠ q2 := by rintro rfl; rw [g1] at hq2; cases hq2
      have hn3 : r ≠ q2 := by rintro rfl; rw [g2] at hq2; cases hq2
      have hn4 : ∀ x ∈ keysOf V, qo x ≠ q2 := fun x hx e => by have := g4' x hx; rw [e, hq2] at this; cases this
      have hp7pu : p7 ≠ pu := fun e => by rw [e, g3] at g7; cases g7
      have g4'' : ∀ x ∈ keysOf V, (M4.put q2 (.smap [])).get (qo x) = some (.smap (trues (usersOf V x))) := fun x hx => get_other (g4' x hx) (hn4 x hx)
      generalize hgenq : AHeap.put q2 _ M4 = M5 at g4'' ⊢; obtain ⟨g8, hextq⟩ := gen_ex hgenq hq2; have g1 := hextq _ _ g1; have g2 := hextq _ _ g2; have g3 := hextq _ _ g3; have g7 := hextq _ _ g7; have hE3 := Ext.trans hE3 hextq; clear hextq hgenq
      obtain ⟨qo', hqo⟩ : ∃ qo' : List UInt8 → Nat, qo' = fun x => if x = rkey k then q2 else qo x := ⟨_, rfl⟩
      have hq1 : qo' (rkey k) = q2 := by rw [hqo]; simp
      have hq2' : ∀ x ∈ keysOf V, qo' x = qo x := fun x hx => by rw [hqo]; exact if_neg (fun e : x = rkey k => hin (e ▸ hx))
      have hmE : mEnts (V ++ [k]) qo' = mEnts V qo ++ [(rkey k, .v (.map (some q2)))] := by
        rw [mEnts, hks, List.map_append, mEnts]
        congr 1
        · refine List.map_congr_left fun x hx => by rw [hq2' x hx]
        · simp [hq1]
      have hkp : kput (rkey k) (.v (.map (some q2))) (mEnts V qo) = mEnts (V ++ [k]) qo' := by
        rw [kput_none, hmE]
        intro p hp
        obtain ⟨x, hx, rfl⟩ := List.mem_map.1 hp
        rintro rfl; exact hin hx
      have hkf2 : kfind (rkey k) (mEnts (V ++ [k]) qo') = some (.v (.map (some q2))) := by rw [mEnts, kfind_fun, if_pos (by rw [hks]; simp), hq1]
      have a3 := AHeap.get_put_same pu (.smap (mEnts (V ++ [k]) qo')) M5
      have a7 := get_other (x := .smap (mEnts (V ++ [k]) qo')) g7 hp7pu
      have a8 := get_other (x := .smap (mEnts (V ++ [k]) qo')) g8 hn1
      have hkt : kput k.ev.sender (.v (.bool true)) [] = trues [k.ev.sender] := rfl
      have hE4 := Ext.over (o := .smap (mEnts (V ++ [k]) qo')) hE3 hpu
      have hrp2 : r ≠ pu := hrp
      have a1 := get_other (x := .smap (mEnts (V ++ [k]) qo')) g1 (Ne.symm hpq)
      have a2 := get_other (x := .smap (mEnts (V ++ [k]) qo')) g2 hrp2
      have a4 : ∀ x ∈ keysOf V, (M5.put pu (.smap (mEnts (V ++ [k]) qo'))).get (qo x) = some (.smap (trues (usersOf V x))) := fun x hx => get_other (g4'' x hx) (f4 x hx).2.2
      (apply s_mapput; (simp only [go_sem, g3, hkp, a3, hkf2, a7, a8, hkt]; rfl); (simp only [go_sem, g3, hkp, a3, hkf2, a7, a8, hkt]; rfl); (simp only [go_sem, g3, hkp, a3, hkf2, a7, a8, hkt]; rfl); (simp only [go_sem, g3, hkp, a3, hkf2, a7, a8, hkt]; rfl); apply s_nil; simp only [AThen, ABlock]; refine hK _ _ ?_; clear hK K; apply s_region; (iterate 5 (apply s_q; decide; rfl; (simp only [go_sem, g3, hkp, a3, hkf2, a7, a8, hkt]; rfl))); apply s_mapput; (simp only [go_sem, g3, hkp, a3, hkf2, a7, a8, hkt]; rfl); (simp only [go_sem, g3, hkp, a3, hkf2, a7, a8, hkt]; rfl); (simp only [go_sem, g3, hkp, a3, hkf2, a7, a8, hkt]; rfl); (simp only [go_sem, g3, hkp, a3, hkf2, a7, a8, hkt]; rfl); apply s_nil; simp only [AThen, ABlock])
      refine ⟨(is ++ [i], qo', (M5.put pu (.smap (mEnts (V ++ [k]) qo'))).put q2 (.smap (trues [k.ev.sender]))), m3, hfin qo' _ (get_other a1 hn2) (get_other a2 hn3) ⟨get_other a3 (Ne.symm hn1), fun x hx => ?_, fun x hx y hy e => ?_⟩ (Ext.over hE4 hHq2), rfl, rfl⟩
      · rw [hks, List.mem_append, List.mem_singleton] at hx
        rcases hx with hx | rfl
        · have hxk : ¬ rkey k = x := fun e => hin (e ▸ hx)
          have hux : usersOf (V ++ [k]) x = usersOf V x := by rw [users_snoc, if_neg hxk]
          rw [hux, hq2' x hx]
          exact ⟨get_other (a4 x hx) (hn4 x hx), (f4 x hx).2⟩
        · rw [hq1, hus]
          exact ⟨AHeap.get_put_same _ _ _, hHq2, hn1⟩
      · rw [hks, List.mem_append, List.mem_singleton] at hx hy
        rcases hx with hx | rfl <;> rcases hy with hy | rfl
        · rw [hq2' x hx, hq2' y hy] at e; exact f5 x hx y hy e
        · rw [hq2' x hx, hq1] at e; exact absurd e (hn4 x hx)
        · rw [hq2' y hy, hq1] at e; exact absurd e.symm (hn4 y hy)
        · rfl
end Go.Proofs.Ytmloandpjbimkaa
