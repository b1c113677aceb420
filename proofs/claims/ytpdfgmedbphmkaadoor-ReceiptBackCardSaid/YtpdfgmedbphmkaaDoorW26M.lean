/-
  The contract of Merge.
-/
import Derived.Test.YtpdfgmedbphmkaaDoorW26L
set_option linter.unusedSimpArgs false
set_option linter.unusedVariables false
set_option maxRecDepth 100000
namespace Go.Proofs.YtpdfgmedbphmkaaDoor
open Go Go.AL
attribute [local irreducible] AOps AWp SOps AE AT ACall AApp

/-- how many of these a board takes, and what it is then -/
def merge1 (l : List Mark) (ms : List (List UInt8 × Mark)) : Nat × List (List UInt8 × Mark) := l.foldl (fun s m => ((if (put1 m s.2).1 then s.1 + 1 else s.1), (put1 m s.2).2.2)) (0, ms)
theorem merge1_step {l : List Mark} {i : Nat} {m : Mark} {ms : List (List UInt8 × Mark)} (h : l[i]? = some m) : merge1 (l.take (i + 1)) ms = ((if (put1 m (merge1 (l.take i) ms).2).1 then (merge1 (l.take i) ms).1 + 1 else (merge1 (l.take i) ms).1), (put1 m (merge1 (l.take i) ms).2).2.2) := by
  unfold merge1; rw [List.take_add_one, h]; simp [List.foldl_append]
theorem merge1_snd (l : List Mark) : ∀ (n : Nat) (ms : List (List UInt8 × Mark)), (l.foldl (fun s m => ((if (put1 m s.2).1 then s.1 + 1 else s.1), (put1 m s.2).2.2)) (n, ms)).2 = l.foldl (fun ms m => (put1 m ms).2.2) ms := by
  induction l with
  | nil => intro n ms; rfl
  | cons m l ih => intro n ms; simp only [List.foldl_cons]; rw [ih]
theorem merge1_len (l : List Mark) : ∀ (n : Nat) (ms : List (List UInt8 × Mark)), (l.foldl (fun s m => ((if (put1 m s.2).1 then s.1 + 1 else s.1), (put1 m s.2).2.2)) (n, ms)).1 ≤ n + l.length := by
  induction l with
  | nil => intro n ms; exact Nat.le_refl _
  | cons m l ih =>
    intro n ms
    simp only [List.foldl_cons, List.length_cons]
    refine Nat.le_trans (ih _ _) ?_
    split <;> omega

theorem merge_c (p q p' q' : Nat) (ms ms' : List (List UInt8 × Mark)) (hbd : Bd ms') (hu : ∀ m ∈ allOf ms', m.user.length < 4294967281) (H : AHeap) (hB : IsBoard H p q ms) (hB' : IsBoard H p' q' ms') (K : AV → AHeap → Prop)
    (h : K (.v (.int .i64 (merge1 (allOf ms') ms).1)) (H.put q (.smap (ents (merge1 (allOf ms') ms).2)))) : ACall X 12 [.v (.pointer (some ⟨p, 0, none⟩)), .v (.pointer (some ⟨p', 0, none⟩))] H K := by
  refine ACall.drop ?_
  obtain ⟨l, hl⟩ : ∃ l, allOf ms' = l := ⟨_, rfl⟩
  have hll : l.length ≤ 1000000 := by rw [← hl]; simp only [allOf, List.length_map, sortL_length]; exact hbd.1
  refine ACall_intro Tryd.func12 rfl (by kernel_rfl) (by rw [Tryd.ntmps12]; simp) ?_; rw [Tryd.ntmps12]; simp only [frame0, Nat.reduceAdd]
  (refine AWp_seq_k (fun K hK => ?_); apply s_region; apply s_q; decide; rfl; (simp only [go_sem]; rfl); apply s_nil; simp only [AThen, ABlock]; refine hK _ _ ?_; clear hK K; refine AWp_seq_k (fun K hK => ?_); apply s_region; apply s_q; decide; rfl; (simp only [go_sem]; rfl); apply s_nil; simp only [AThen, ABlock]; refine hK _ _ ?_; clear hK K; (iterate 2 (refine AWp_seq_k (fun K hK => ?_))); apply s_region; apply s_q; decide; rfl; (simp only [go_sem]; rfl); apply s_call; decide; (simp only [go_sem]; rfl); (simp only [go_sem]; rfl); apply all_c p' q' ms' hbd _ hB'; (iterate 2 (apply s_q; decide; rfl; (simp only [go_sem]; rfl))); apply s_nil; simp only [AThen, ABlock]; refine hK _ _ ?_; clear hK K; apply AWp_block)
  rw [hl] at h hu ⊢
  refine AWp_loop_s (σ := Nat × AHeap) [0, 5, 11, 12, 13] (fun s => [.v (.pointer (some ⟨p, 0, none⟩)), .v (.int .i64 (merge1 (l.take s.1) ms).1), .sl false (l.map Mark.cells), .v (.int .i64 l.length), .v (.int .i64 s.1)]) (fun s => s.2) (fun s => l.length - s.1) (fun s => s.1 ≤ l.length ∧ Ext (H.put q (.smap (ents (merge1 (l.take s.1) ms).2))) s.2) (0, H) ⟨Nat.zero_le _, by rw [show (merge1 (l.take 0) ms).2 = ms from rfl, put_same hB.map]; exact Ext.refl _⟩ rfl rfl (fun s hs => ?_)
  obtain ⟨i, L⟩ := s
  obtain ⟨hi, hE⟩ := hs
  simp only [List.zip_cons_cons, List.zip_nil_right] at hi hE ⊢
  obtain ⟨⟨n, cur⟩, hcur⟩ : ∃ s, merge1 (l.take i) ms = s := ⟨_, rfl⟩
  rw [hcur] at hE ⊢
  have hBc : IsBoard (H.put q (.smap (ents cur))) p q cur := ⟨get_other hB.box hB.ne, AHeap.get_put_same _ _ _⟩
  have hn : n ≤ i := by
    have := merge1_len (l.take i) 0 ms
    rw [show (l.take i).foldl (fun s m => ((if (put1 m s.2).1 then s.1 + 1 else s.1), (put1 m s.2).2.2)) (0, ms) = (n, cur) from hcur] at this
    simp at this; omega
  (refine AWp_seq_k (fun K hK => ?_); apply s_region; apply s_q; decide; rfl; (simp only [go_sem]; rfl); apply s_nil; simp only [AThen, ABlock]; refine hK _ _ ?_; clear hK K; refine AWp_seq_k (fun K hK => ?_))
  refine cond_split (by simp only [go_sem]; try rfl) (fun hd => ?_) (fun hd => ?_)
  · have hlt : i < l.length := by simpa using hd
    obtain ⟨m, hm⟩ : ∃ a, l[i]? = some a := ⟨_, List.getElem?_eq_getElem hlt⟩
    have hg : (l.map Mark.cells)[i]? = some [.s m.user, .v (.int .i64 m.at_), .v (.int .i64 m.ts)] := by rw [List.getElem?_map, hm]; rfl
    have hst := merge1_step (ms := ms) hm
    rw [hcur] at hst
    obtain ⟨⟨r, e, nx⟩, hp⟩ : ∃ x, put1 m cur = x := ⟨_, rfl⟩
    rw [hp] at hst
    have hBL := hBc.ext hE
    (apply AWp_skip; simp only [AThen, ABlock]; refine hK _ _ ?_; clear hK K; refine AWp_seq_k (fun K hK => ?_); apply AWp_block; refine AWp_seq_k (fun K hK => ?_); apply s_region; (iterate 2 (apply s_q; decide; rfl; (simp only [go_sem, hg]; rfl))); apply s_alloc; decide; exact zc_24; intro b hb; apply s_store; (simp only [go_sem, hg]; rfl); (simp only [go_sem, hg]; rfl); (simp only [go_sem, hg]; rfl); apply s_nil; simp only [AThen, ABlock]; refine hK _ _ ?_; clear hK K; refine AWp_seq_k (fun K hK => ?_); apply s_region; (iterate 2 (apply s_q; decide; rfl; (simp only [go_sem, hg]; rfl))))
    have hbn : L.get b = none := by assumption
    (apply s_call; decide; (simp only [go_sem, hg]; rfl); (simp only [go_sem, hg]; rfl); apply putk_c p q _ _ _ cur nx r e (hu m (List.mem_of_getElem? hm)) hp _ (hBL.fresh hbn); intro H5 hB5 hH5; (iterate 5 (apply s_q; decide; rfl; (simp only [go_sem, hg]; rfl))); apply s_nil; simp only [AThen, ABlock]; refine hK _ _ ?_; clear hK K; refine AWp_seq_k (fun K hK => ?_); apply s_region; apply s_q; decide; rfl; (simp only [go_sem, hg]; rfl); apply s_nil; simp only [AThen, ABlock]; refine hK _ _ ?_; clear hK K)
    have hE5 : Ext (H.put q (.smap (ents nx))) H5 := by
      rw [hH5]
      have h1 := Ext.both (Ext.trans hE (Ext.fresh (o := .box 24 [.s m.user, .v (.int .i64 m.at_), .v (.int .i64 m.ts)]) hbn)) q (.smap (ents nx))
      rw [AHeap.put_put] at h1
      exact h1
    refine cond_split (by simp only [go_sem]; try rfl) (fun hr => ?_) (fun hr => ?_)
    · subst hr
      (apply s_region; (iterate 3 (apply s_q; decide; rfl; (simp only [go_sem]; rfl))); apply s_nil; simp only [AThen, ABlock]; refine hK _ _ ?_; clear hK K; apply s_region; (iterate 2 (apply s_q; decide; rfl; (simp only [go_sem]; rfl))); apply s_nil; simp only [AThen, ABlock])
      refine ⟨(i + 1, H5), by simp only; omega, ⟨by simp only; omega, by simp only; rw [hst]; exact hE5⟩, ?_, by trivial⟩
      simp only [getAll, List.map_cons, List.map_nil, AFr.get, reduceIte, Nat.reduceEqDiff, hst]
      rw [wrapS hlt (by omega), wrap64 (by omega)]; try rfl
    · subst hr
      (apply AWp_skip; simp only [AThen, ABlock]; refine hK _ _ ?_; clear hK K; apply s_region; (iterate 2 (apply s_q; decide; rfl; (simp only [go_sem]; rfl))); apply s_nil; simp only [AThen, ABlock])
      refine ⟨(i + 1, H5), by simp only; omega, ⟨by simp only; omega, by simp only; rw [hst]; exact hE5⟩, ?_, by trivial⟩
      simp only [getAll, List.map_cons, List.map_nil, AFr.get, reduceIte, Nat.reduceEqDiff, hst]
      rw [wrapS hlt (by omega)]; try rfl
  · have hge : l.length ≤ i := by simpa using hd
    (apply AWp_exit; simp only [AThen, ABlock, reduceIte, Nat.reduceEqDiff]; clear hK K; refine hK _ _ ?_; clear hK K; refine AWp_seq_k (fun K hK => ?_); apply s_region; (iterate 2 (apply s_q; decide; rfl; (simp only [go_sem]; rfl))); apply s_nil; simp only [AThen, ABlock]; refine hK _ _ ?_; clear hK K; apply AWp_ret)
    rw [List.take_of_length_le hge] at hcur
    rw [hcur] at h
    exact ⟨_, hE, h⟩
end Go.Proofs.YtpdfgmedbphmkaaDoor
