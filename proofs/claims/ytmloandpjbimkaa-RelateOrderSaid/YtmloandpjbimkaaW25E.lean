/-
  Body's closures, maps.DeleteFunc. Contracts.
-/
import Derived.Test.YtmloandpjbimkaaW25D
set_option linter.unusedSimpArgs false
set_option linter.unusedVariables false
set_option maxRecDepth 100000
namespace Go.Proofs.Ytmloandpjbimkaa
open Go Go.AL
attribute [local irreducible] AOps AWp SOps AE AT ACall AApp

theorem kname_c (k : Kn) (name : List UInt8) (p : Nat) (H : AHeap) (hp : H.get p = some (.box 9 [.s name])) (K : AV → AHeap → Prop) (h : K (.v (.bool (decide (k.name = name)))) H) : ACall X 32 [.agg k.cells, ptrTo p] H K := by
  refine ACall.drop ?_
  rw [Kn.cells]
  refine ACall_intro Try.func32 rfl (by kernel_rfl) (by rw [Try.ntmps32]; simp) ?_; rw [Try.ntmps32]; simp only [frame0, Nat.reduceAdd]
  refine AWp_seq_k (fun K hK => ?_); apply s_region
  apply s_box; decide; exact (by simp only [go_sem]; try rfl); exact (by simp only [go_sem]; try rfl); intro b2 hb2
  (apply s_q; decide; rfl; (simp only [go_sem]; rfl); apply s_nil; simp only [AThen, ABlock]; refine hK _ _ ?_; clear hK K; refine AWp_seq_k (fun K hK => ?_); apply s_region; (iterate 2 (apply s_q; decide; rfl; (simp only [go_sem]; rfl))))
  generalize hgenq : AHeap.put b2 _ H = M; obtain ⟨g1, hextq⟩ := gen_ex hgenq hb2; have hp := hextq _ _ hp; have hE := hextq; clear hextq hgenq
  ((iterate 3 (apply s_q; decide; rfl; (simp only [go_sem, g1, hp]; rfl))); apply s_nil; simp only [AThen, ABlock]; refine hK _ _ ?_; clear hK K; apply AWp_ret)
  exact ⟨H, hE, h⟩
theorem kfirst_c (t : Bool) (l : List Kn) (name : List UInt8) (hl : l.length ≤ 1000000) (p : Nat) (H : AHeap) (hp : H.get p = some (.box 9 [.s name])) (K : AV → AHeap → Prop) (h : K (.v (.int .i64 (firstI (fun k => decide (k.name = name)) l))) H) :
    ACall X 31 [.sl t (l.map Kn.cells), .fn (.func 32) [] [ptrTo p]] H K := by
  refine ACall_intro Try.func31 rfl (by kernel_rfl) (by rw [Try.ntmps31]; simp) ?_; rw [Try.ntmps31]; simp only [frame0, Nat.reduceAdd]
  (refine AWp_seq_k (fun K hK => ?_); apply s_region; apply s_q; decide; rfl; (simp only [go_sem]; rfl); apply s_nil; simp only [AThen, ABlock]; refine hK _ _ ?_; clear hK K; (iterate 2 (refine AWp_seq_k (fun K hK => ?_))); apply s_region; (iterate 3 (apply s_q; decide; rfl; (simp only [go_sem]; rfl))); apply s_nil; simp only [AThen, ABlock]; refine hK _ _ ?_; clear hK K; apply AWp_block)
  refine AWp_loop_s (σ := Nat) [0, 1, 7, 8] (fun i => [.sl t (l.map Kn.cells), .fn (.func 32) [] [ptrTo p], .v (.int .i64 l.length), .v (.int .i64 i)]) (fun _ => H) (fun i => l.length - i) (fun i => i ≤ l.length ∧ ∀ x ∈ l.take i, (decide (x.name = name)) = false) 0 ⟨Nat.zero_le _, by simp⟩ rfl rfl (fun i hi => ?_)
  simp only [List.zip_cons_cons, List.zip_nil_right]
  (refine AWp_seq_k (fun K hK => ?_); apply s_region; apply s_q; decide; rfl; (simp only [go_sem]; rfl); apply s_nil; simp only [AThen, ABlock]; refine hK _ _ ?_; clear hK K; refine AWp_seq_k (fun K hK => ?_))
  refine cond_split (by simp only [go_sem]; try rfl) (fun hc => ?_) (fun hc => ?_)
  · have hlt : i < l.length := by simpa using hc
    obtain ⟨a, hm⟩ := gete hlt
    have hg := kn_at hm
    (apply AWp_skip; simp only [AThen, ABlock]; refine hK _ _ ?_; clear hK K; refine AWp_seq_k (fun K hK => ?_); apply AWp_block; refine AWp_seq_k (fun K hK => ?_); apply s_region; (iterate 2 (apply s_q; decide; rfl; (simp only [go_sem, hg]; rfl))); apply s_nil; simp only [AThen, ABlock]; refine hK _ _ ?_; clear hK K; refine AWp_seq_k (fun K hK => ?_); apply s_region; (iterate 5 (apply s_q; decide; rfl; (simp only [go_sem, hg]; rfl))); apply s_call; decide; (simp only [go_sem, hg]; rfl); (simp only [go_sem, hg]; rfl); apply kname_c a name p H hp; apply s_nil; simp only [AThen, ABlock]; refine hK _ _ ?_; clear hK K)
    refine cond_split (by simp only [go_sem]; try rfl) (fun hd => ?_) (fun hd => ?_)
    · (refine AWp_seq_k (fun K hK => ?_); apply s_region; (iterate 2 (apply s_q; decide; rfl; (simp only [go_sem]; rfl))); apply s_nil; simp only [AThen, ABlock]; refine hK _ _ ?_; clear hK K; apply AWp_ret; simp only [AThen, ABlock]; apply end_ret; rfl; simp only [AFr.get, reduceIte, Nat.reduceEqDiff])
      exact finI h (firstI_some hi.2 hm hd).symm
    · (apply AWp_skip; simp only [AThen, ABlock]; refine hK _ _ ?_; clear hK K; apply s_region; (iterate 2 (apply s_q; decide; rfl; (simp only [go_sem]; rfl))); apply s_nil; simp only [AThen, ABlock])
      refine ⟨i + 1, by omega, ⟨by omega, ?_⟩, ?_, by trivial⟩
      · intro x hx
        rcases take_mem_succ hm hx with hx | hx
        · exact hi.2 x hx
        · subst hx; exact hd
      · simp only [getAll, List.map_cons, List.map_nil, AFr.get]
        rw [wrapS hlt (by omega)]; rfl
  · have hge : l.length ≤ i := by simpa using hc
    (apply AWp_exit; simp only [AThen, ABlock, reduceIte, Nat.reduceEqDiff]; clear hK K; refine hK _ _ ?_; clear hK K; refine AWp_seq_k (fun K hK => ?_); apply s_region; apply s_q; decide; rfl; (simp only [go_sem]; rfl); apply s_nil; simp only [AThen, ABlock]; refine hK _ _ ?_; clear hK K; apply AWp_ret)
    exact finI h (firstI_none (fun x hx => hi.2 x (by rw [List.take_of_length_le hge]; exact hx))).symm
/-- is it another sender's, or of another type? -/
def otherB (e x : Ev) : Bool := !decide (x.sender = e.sender) || !decide (x.type = e.type)
theorem other_c (n : List UInt8) (x e : Ev) (p : Nat) (H : AHeap) (hp : H.get p = some (.box 28 e.cells)) (K : AV → AHeap → Prop) (h : K (.v (.bool (otherB e x))) H) : ACall X 35 [.s n, .agg x.cells, ptrTo p] H K := by
  refine ACall.drop ?_
  rw [Ev.cells] at hp ⊢
  refine ACall_intro Try.func35 rfl (by kernel_rfl) (by rw [Try.ntmps35]; simp) ?_; rw [Try.ntmps35]; simp only [frame0, Nat.reduceAdd]
  refine AWp_seq_k (fun K hK => ?_); apply s_region
  apply s_box; decide; exact (by simp only [go_sem]; try rfl); exact (by simp only [go_sem]; try rfl); intro b2 hb2
  (apply s_q; decide; rfl; (simp only [go_sem]; rfl); apply s_nil; simp only [AThen, ABlock]; refine hK _ _ ?_; clear hK K; refine AWp_seq_k (fun K hK => ?_); apply s_region; (iterate 3 (apply s_q; decide; rfl; (simp only [go_sem]; rfl))))
  generalize hgenq : AHeap.put b2 _ H = M; obtain ⟨g1, hextq⟩ := gen_ex hgenq hb2; have hp := hextq _ _ hp; have hE := hextq; clear hextq hgenq
  ((iterate 3 (apply s_q; decide; rfl; (simp only [go_sem, g1, hp]; rfl))); apply s_spec; decide; rfl; rfl; (simp only [go_sem, g1, hp]; rfl); (simp only [go_sem, g1, hp]; rfl); (simp only [go_sem, g1, hp]; rfl); (simp only [go_sem, g1, hp]; rfl); trivial; apply s_spec; decide; rfl; rfl; (simp only [go_sem, g1, hp]; rfl); (simp only [go_sem, g1, hp]; rfl); (simp only [go_sem, g1, hp]; rfl); (simp only [go_sem, g1, hp]; rfl); simp [condsOk]; apply s_spec; decide; rfl; rfl; (simp only [go_sem, g1, hp]; rfl); (simp only [go_sem, g1, hp]; rfl); (simp only [go_sem, g1, hp]; rfl); (simp only [go_sem, g1, hp]; rfl); trivial; (iterate 2 (apply s_spec; decide; rfl; rfl; (simp only [go_sem, g1, hp]; rfl); (simp only [go_sem, g1, hp]; rfl); (simp only [go_sem, g1, hp]; rfl); (simp only [go_sem, g1, hp]; rfl); simp [condsOk])); apply s_pick; decide; (simp only [go_sem, g1, hp]; rfl); (simp only [go_sem, g1, hp]; rfl); (simp only [go_sem, g1, hp]; rfl); (simp only [go_sem, g1, hp]; rfl); (simp only [go_sem, g1, hp]; rfl); (simp only [go_sem, g1, hp]; rfl); trivial; trivial; simp [condsOk]; apply s_q; decide; rfl; (simp only [go_sem, g1, hp]; rfl); apply s_nil; simp only [AThen, ABlock]; refine hK _ _ ?_; clear hK K; apply AWp_ret)
  refine ⟨H, hE, fin h ?_⟩
  unfold otherB
  cases h1 : decide (x.sender = e.sender) <;> cases h2 : decide (x.type = e.type) <;> rfl
set_option maxHeartbeats 4000000 in
theorem delete_c (q p : Nat) (e : Ev) (ks : List Kn) (hnd : (ks.map (·.name)).Nodup) (H : AHeap) (hq : H.get q = some (.smap (kEnts ks))) (hp : H.get p = some (.box 28 e.cells)) (K : AV → AHeap → Prop) (h : K (.tup []) (H.put q (.smap (kEnts (ks.filter fun k => !otherB e k.ev))))) :
    ACall X 34 [.v (.map (some q)), .fn (.func 35) [] [ptrTo p]] H K := by
  refine ACall.drop ?_
  refine ACall_intro Try.func34 rfl (by kernel_rfl) (by rw [Try.ntmps34]; simp) ?_; rw [Try.ntmps34]; simp only [frame0, Nat.reduceAdd]
  refine AWp_seq_k (fun K hK => ?_); apply s_region
  (apply s_q; decide; rfl; (simp only [go_sem]; rfl))
  apply s_rangeD; decide; exact Try.underlying62; exact (by simp only [go_sem]; try rfl); exact hq
  intro ents clock r hsz hbn hr
  have hne : (kEnts ks).length = ks.length := by simp [kEnts]
  rw [hne] at hsz ⊢
  have hrq : r ≠ q := by rintro rfl; rw [hq] at hr; cases hr
  have hH : ∀ c o, c ≠ q → H.get c = some o → ((H.put q (struck ents clock (kEnts ks) (List.range ks.length))).put r (.walk q ents clock [])).get c = some o := fun c o hc ho => by
    have hcr : c ≠ r := by rintro rfl; rw [ho] at hr; cases hr
    rw [AHeap.get_put_ne _ _ hcr, AHeap.get_put_ne _ _ hc]; exact ho
  have f1 : ((H.put q (struck ents clock (kEnts ks) (List.range ks.length))).put r (.walk q ents clock [])).get q = some (struck ents clock (kEnts ks) (List.range ks.length)) := by rw [AHeap.get_put_ne _ _ (Ne.symm hrq)]; exact AHeap.get_put_same _ _ _
  have f2 : ((H.put q (struck ents clock (kEnts ks) (List.range ks.length))).put r (.walk q ents clock [])).get r = some (.walk q ents clock []) := AHeap.get_put_same _ _ _
  generalize (H.put q (struck ents clock (kEnts ks) (List.range ks.length))).put r (.walk q ents clock []) = L0 at hH f1 f2 ⊢
  (apply s_nil; simp only [AThen, ABlock]; refine hK _ _ ?_; clear hK K; apply AWp_block)
  have hpq : p ≠ q := by rintro rfl; rw [hq] at hp; cases hp
  refine AWp_loop_s (σ := List Nat × AHeap) [0, 1, 7] (fun s => [.v (.map (some q)), .fn (.func 35) [] [ptrTo p], ptrTo r]) (fun s => s.2) (fun s => ks.length - s.1.length)
    (fun s => (s.1.Nodup ∧ ∀ i ∈ s.1, i < ks.length) ∧ s.2.get q = some (struck ents clock (kEnts ks) ((List.range ks.length).filter fun i => !(decide (i ∈ s.1) && (match ks[i]? with | some k => otherB e k.ev | none => false)))) ∧ s.2.get r = some (.walk q ents clock s.1) ∧ ∀ c o, c ≠ q → H.get c = some o → s.2.get c = some o)
    ([], L0) ⟨⟨.nil, by simp⟩, by simp only [List.not_mem_nil, decide_false, Bool.false_and, Bool.not_false]; rw [List.filter_eq_self.2 (fun _ _ => rfl)]; exact f1, f2, hH⟩ rfl rfl (fun s hs => ?_)
  clear f1 f2 hH
  obtain ⟨is, L⟩ := s
  obtain ⟨⟨hnis, hlis⟩, f1, f2, hH⟩ := hs
  simp only [List.zip_cons_cons, List.zip_nil_right] at hnis hlis f1 f2 hH ⊢
  generalize hps : (List.range ks.length).filter (fun i => !(decide (i ∈ is) && (match ks[i]? with | some k => otherB e k.ev | none => false))) = ps at f1
  have hmem : ∀ i, i ∈ ps ↔ i < ks.length ∧ (!(decide (i ∈ is) && (match ks[i]? with | some k => otherB e k.ev | none => false))) = true := fun i => by rw [← hps, List.mem_filter, List.mem_range]
  have hpsn : ps.Nodup := by rw [← hps]; exact List.nodup_range.filter _
  have hrg : ∀ i ∈ ps, i < (kEnts ks).length := fun i hi => by rw [hne]; exact ((hmem i).1 hi).1
  refine AWp_seq_k (fun K hK => ?_); apply s_region
  apply s_nextD; decide; exact (by simp only [go_sem]; try rfl); exact f2; exact f1; rw [hne]; exact hsz; exact hbn; exact hrg; (intro i hi; rw [hne]; exact hlis i hi)
  · intro hall
    (apply s_q; decide; rfl; (simp only [go_sem]; rfl); apply s_nil; simp only [AThen, ABlock]; refine hK _ _ ?_; clear hK K; refine AWp_seq_k (fun K hK => ?_))
    refine cond_split (by simp only [go_sem]; try rfl) (fun hc => ?_) (fun hc => ?_)
    · cases hc
    apply AWp.unstruck f1
    have hps2 : atL ps (kEnts ks) = kEnts (ks.filter fun k => !otherB e k.ev) := by
      have e1 : ps = (List.range ks.length).filter fun i => !(match ks[i]? with | some k => otherB e k.ev | none => false) := by
        rw [← hps]
        refine List.filter_congr fun i hi => ?_
        by_cases his : i ∈ is
        · simp [his]
        · have hx : i ∉ ps := fun h => his (hall i h)
          rw [hmem] at hx
          simp only [his, decide_false, Bool.false_and, Bool.not_false, and_true] at hx
          exact absurd (List.mem_range.1 hi) hx
      rw [e1, kEnts, atL_map]
      rw [atL_filter (p := fun k => !otherB e k.ev) (fun i x hx => by rw [hx])]
      rfl
    rw [hps2]
    (apply AWp_exit; simp only [AThen, ABlock, reduceIte, Nat.reduceEqDiff])
    refine ⟨H.put q (.smap (kEnts (ks.filter fun k => !otherB e k.ev))), fun c o hc => ?_, h⟩
    rw [AHeap.get_put] at hc ⊢
    split at hc
    · rename_i e; rw [if_pos e]; exact hc
    · rename_i e; rw [if_neg e]; exact hH c o e hc
  · intro i kk v hir hi hiv
    have hil : i < ks.length := ((hmem i).1 hir).1
    obtain ⟨k, hk⟩ := gete hil
    have hkv : (kk, v) = (k.name, AV.agg k.ev.cells) := by
      rw [kEnts, List.getElem?_map, hk] at hiv; simpa using hiv.symm
    cases hkv
    obtain ⟨m1, m2, m3⟩ := seen_more hnis hlis hi hil
    have g1 := get_other (x := .walk q ents clock (is ++ [i])) f1 (Ne.symm hrq)
    have g2 := AHeap.get_put_same r (.walk q ents clock (is ++ [i])) L
    have hH2 : ∀ c o, c ≠ q → H.get c = some o → (L.put r (.walk q ents clock (is ++ [i]))).get c = some o := fun c o hc ho => by
      have hcr : c ≠ r := by rintro rfl; rw [hr] at ho; cases ho
      rw [AHeap.get_put_ne _ _ hcr]; exact hH c o hc ho
    generalize AHeap.put r (.walk q ents clock (is ++ [i])) L = M1 at g1 g2 hH2 ⊢
    (apply s_q; decide; rfl; (simp only [go_sem]; rfl); apply s_nil; simp only [AThen, ABlock]; refine hK _ _ ?_; clear hK K; refine AWp_seq_k (fun K hK => ?_))
    refine cond_split (by simp only [go_sem]; try rfl) (fun hc => ?_) (fun hc => ?_)
    rotate_left
    · cases hc
    (apply AWp_skip; simp only [AThen, ABlock]; refine hK _ _ ?_; clear hK K; apply AWp_block; refine AWp_seq_k (fun K hK => ?_); apply s_region)
    apply s_entryD; decide; exact (by simp only [go_sem]; try rfl); exact g2; exact g1; rw [hne]; exact hsz; exact hrg; exact hir; exact hiv
    simp only [Ev.cells]
    ((iterate 2 (apply s_q; decide; rfl; (simp only [go_sem]; rfl))); apply s_alloc; decide; exact zc_28; intro b hb; apply s_q; decide; rfl; (simp only [go_sem]; rfl); apply s_store; (simp only [go_sem]; rfl); (simp only [go_sem]; rfl); (simp only [go_sem]; rfl); apply s_nil; simp only [AThen, ABlock]; refine hK _ _ ?_; clear hK K; refine AWp_seq_k (fun K hK => ?_); apply s_region; (iterate 3 (apply s_q; decide; rfl; (simp only [go_sem]; rfl))))
    obtain ⟨p6, hnewq⟩ : ∃ q, q = b := ⟨_, rfl⟩; have hp6 := hb; rw [← hnewq] at hp6 ⊢; clear hb hnewq; try clear he; clear b
    generalize hgenq : AHeap.put p6 _ M1 = M2; obtain ⟨g6, hextq⟩ := gen_ex hgenq hp6; have g1 := hextq _ _ g1; have g2 := hextq _ _ g2; have hX := hextq; clear hextq hgenq
    have hH3 : ∀ c o, c ≠ q → H.get c = some o → M2.get c = some o := fun c o hc ho => hX _ _ (hH2 c o hc ho)
    have hpM := hH3 p _ hpq hp
    have hnx : ∀ (b : Bool), otherB e k.ev = b → (List.range ks.length).filter (fun j => !(decide (j ∈ is ++ [i]) && (match ks[j]? with | some k => otherB e k.ev | none => false))) = if b then ps.erase i else ps := fun b hb => by
      have e1 : ∀ j, (decide (j ∈ is ++ [i])) = (decide (j ∈ is) || decide (j = i)) := fun j => by simp
      split
      · rename_i hbt
        rw [hpsn.erase_eq_filter, ← hps, List.filter_filter]
        refine List.filter_congr fun j hj => ?_
        rw [e1]
        by_cases hji : j = i
        · subst hji; simp [hk, hb, hbt]
        · simp [hji]
      · rename_i hbt
        rw [← hps]
        refine List.filter_congr fun j hj => ?_
        rw [e1]
        by_cases hji : j = i
        · subst hji; simp [hk, hb, hbt]
        · simp [hji]
    (apply s_call; decide; (simp only [go_sem, g6]; rfl); (simp only [go_sem, g6]; rfl); apply other_c k.name k.ev e p M2 hpM; apply s_nil; simp only [AThen, ABlock]; refine hK _ _ ?_; clear hK K)
    refine cond_split (by simp only [go_sem]; try rfl) (fun hd => ?_) (fun hd => ?_)
    · (apply s_region; (iterate 2 (apply s_q; decide; rfl; (simp only [go_sem]; rfl))))
      apply s_deleteD; exact (by simp only [go_sem]; try rfl); exact (by simp only [go_sem]; try rfl); exact g1; exact Try.underlying62; exact Try.underlying9; rw [hne]; exact hsz; exact hrg; exact hpsn; exact hir; exact hiv
      (apply s_nil; simp only [AThen, ABlock])
      refine ⟨(is ++ [i], M2.put q (struck ents clock (kEnts ks) (ps.erase i))), m3, ⟨⟨m1, m2⟩, ?_, ?_, ?_⟩, rfl, rfl⟩
      · simp only; rw [hnx true hd]; exact AHeap.get_put_same _ _ _
      · exact get_other g2 hrq
      · intro c o hc ho; rw [AHeap.get_put_ne _ _ hc]; exact hH3 c o hc ho
    · (apply AWp_skip; simp only [AThen, ABlock])
      refine ⟨(is ++ [i], M2), m3, ⟨⟨m1, m2⟩, ?_, g2, hH3⟩, rfl, rfl⟩
      simp only; rw [hnx false hd]; exact g1
end Go.Proofs.Ytmloandpjbimkaa
