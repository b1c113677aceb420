/-
  Boards that are nothing: nil, and one without a map. Contracts.
-/
import Derived.Test.YtpdfgmedbphmkaaDoorW26P
set_option linter.unusedSimpArgs false
set_option linter.unusedVariables false
set_option maxRecDepth 100000
namespace Go.Proofs.YtpdfgmedbphmkaaDoor
open Go Go.AL
attribute [local irreducible] AOps AWp SOps AE AT ACall AApp

/-- a board that is nothing: nil, or one without a map -/
def NB (H : AHeap) (v : AV) : Prop := v = .v (.pointer none) ∨ ∃ b, v = ptrTo b ∧ H.get b = some (.box 40 [.v (.map none)])
theorem NB.fresh {H : AHeap} {v : AV} {c : Nat} {o : AObj} (h : NB H v) (hc : H.get c = none) : NB (H.put c o) v := by
  rcases h with h | ⟨b, h, hb⟩
  · exact .inl h
  · exact .inr ⟨b, h, get_fresh hb hc⟩
theorem NB.ext {H L : AHeap} {v : AV} (h : NB H v) (hE : Ext H L) : NB L v := by
  rcases h with h | ⟨b, h, hb⟩
  · exact .inl h
  · exact .inr ⟨b, h, hE _ _ hb⟩
theorem nmade_c (v : AV) (H : AHeap) (hN : NB H v) (K : AV → AHeap → Prop) (h : K (.v (.bool false)) H) : ACall X 22 [v] H K := by
  rcases hN with rfl | ⟨b, rfl, hb⟩
  · refine ACall_intro Tryd.func22 rfl (by kernel_rfl) (by rw [Tryd.ntmps22]; simp) ?_; rw [Tryd.ntmps22]; simp only [frame0, Nat.reduceAdd]
    (refine AWp_seq_k (fun K hK => ?_); apply s_region; apply s_q; decide; rfl; (simp only [go_sem]; rfl); apply s_nil; simp only [AThen, ABlock]; refine hK _ _ ?_; clear hK K; refine AWp_seq_k (fun K hK => ?_); apply s_region; (iterate 3 (apply s_q; decide; rfl; (simp only [go_sem]; rfl))); apply s_spec; decide; rfl; rfl; (simp only [go_sem]; rfl); (simp only [go_sem]; rfl); (simp only [go_sem]; rfl); (simp only [go_sem]; rfl); trivial; (iterate 4 (apply s_when (av := (.v (.bool false))); decide; (simp only [go_sem]; rfl); (simp only [go_sem]; rfl); (simp only [go_sem]; rfl); trivial; (focus (intro hg; first | (cases hg; done) | (simp at hg; done))))); apply s_pick; decide; (simp only [go_sem]; rfl); (simp only [go_sem]; rfl); (simp only [go_sem]; rfl); (simp only [go_sem]; rfl); (simp only [go_sem]; rfl); (simp only [go_sem]; rfl); trivial; trivial; trivial; apply s_q; decide; rfl; (simp only [go_sem]; rfl); apply s_nil; simp only [AThen, ABlock]; refine hK _ _ ?_; clear hK K; apply AWp_ret)
    exact h
  · refine ACall_intro Tryd.func22 rfl (by kernel_rfl) (by rw [Tryd.ntmps22]; simp) ?_; rw [Tryd.ntmps22]; simp only [frame0, Nat.reduceAdd]
    (refine AWp_seq_k (fun K hK => ?_); apply s_region; apply s_q; decide; rfl; (simp only [go_sem, hb]; rfl); apply s_nil; simp only [AThen, ABlock]; refine hK _ _ ?_; clear hK K; refine AWp_seq_k (fun K hK => ?_); apply s_region; (iterate 3 (apply s_q; decide; rfl; (simp only [go_sem, hb]; rfl))); (iterate 5 (apply s_spec; decide; rfl; rfl; (simp only [go_sem, hb]; rfl); (simp only [go_sem, hb]; rfl); (simp only [go_sem, hb]; rfl); (simp only [go_sem, hb]; rfl); trivial)); apply s_pick; decide; (simp only [go_sem, hb]; rfl); (simp only [go_sem, hb]; rfl); (simp only [go_sem, hb]; rfl); (simp only [go_sem, hb]; rfl); (simp only [go_sem, hb]; rfl); (simp only [go_sem, hb]; rfl); trivial; trivial; trivial; apply s_q; decide; rfl; (simp only [go_sem, hb]; rfl); apply s_nil; simp only [AThen, ABlock]; refine hK _ _ ?_; clear hK K; apply AWp_ret)
    exact h
theorem nusers_c (v : AV) (H : AHeap) (hN : NB H v) (K : AV → AHeap → Prop) (h : K (.sl true []) H) : ACall X 20 [v] H K := by
  refine ACall_intro Tryd.func20 rfl (by kernel_rfl) (by rw [Tryd.ntmps20]; simp) ?_; rw [Tryd.ntmps20]; simp only [frame0, Nat.reduceAdd]
  (refine AWp_seq_k (fun K hK => ?_); apply s_region; apply s_q; decide; rfl; (simp only [go_sem]; rfl); apply s_nil; simp only [AThen, ABlock]; refine hK _ _ ?_; clear hK K; (iterate 2 (refine AWp_seq_k (fun K hK => ?_))); apply s_region; apply s_q; decide; rfl; (simp only [go_sem]; rfl); apply s_call; decide; (simp only [go_sem]; rfl); (simp only [go_sem]; rfl); apply nmade_c v _ hN; apply s_q; decide; rfl; (simp only [go_sem]; rfl); apply s_nil; simp only [AThen, ABlock]; refine hK _ _ ?_; clear hK K)
  refine cond_split (by simp only [go_sem]; try rfl) (fun hc => ?_) (fun hc => ?_)
  · (refine AWp_seq_k (fun K hK => ?_); apply s_region; apply s_q; decide; rfl; (simp only [go_sem]; rfl); apply s_nil; simp only [AThen, ABlock]; refine hK _ _ ?_; clear hK K; apply AWp_ret; simp only [AThen, ABlock]; apply end_ret; rfl; simp only [AFr.get, reduceIte, Nat.reduceEqDiff])
    exact h
  · cases hc
theorem nall_c (v : AV) (H : AHeap) (hN : NB H v) (K : AV → AHeap → Prop) (h : K (.sl true []) H) : ACall X 9 [v] H K := by
  refine ACall_intro Tryd.func9 rfl (by kernel_rfl) (by rw [Tryd.ntmps9]; simp) ?_; rw [Tryd.ntmps9]; simp only [frame0, Nat.reduceAdd]
  (refine AWp_seq_k (fun K hK => ?_); apply s_region; apply s_q; decide; rfl; (simp only [go_sem]; rfl); apply s_nil; simp only [AThen, ABlock]; refine hK _ _ ?_; clear hK K; refine AWp_seq_k (fun K hK => ?_); apply s_region; apply s_q; decide; rfl; (simp only [go_sem]; rfl); apply s_nil; simp only [AThen, ABlock]; refine hK _ _ ?_; clear hK K; (iterate 2 (refine AWp_seq_k (fun K hK => ?_))); apply s_region; apply s_q; decide; rfl; (simp only [go_sem]; rfl); apply s_call; decide; (simp only [go_sem]; rfl); (simp only [go_sem]; rfl); apply nusers_c v _ hN; (iterate 2 (apply s_q; decide; rfl; (simp only [go_sem]; rfl))); apply s_nil; simp only [AThen, ABlock]; refine hK _ _ ?_; clear hK K; apply AWp_block)
  refine AWp_loop_s (σ := Unit) [3, 7, 8, 9] (fun _ => [.sl true [], .sl true [], .v (.int .i64 0), .v (.int .i64 0)]) (fun _ => H) (fun _ => 0) (fun _ => True) () trivial rfl rfl (fun s hs => ?_)
  simp only [List.zip_cons_cons, List.zip_nil_right]
  (refine AWp_seq_k (fun K hK => ?_); apply s_region; apply s_q; decide; rfl; (simp only [go_sem]; rfl); apply s_nil; simp only [AThen, ABlock]; refine hK _ _ ?_; clear hK K; refine AWp_seq_k (fun K hK => ?_))
  refine cond_split (by simp only [go_sem]; try rfl) (fun hc => ?_) (fun hc => ?_)
  · simp at hc
  · (apply AWp_exit; simp only [AThen, ABlock, reduceIte, Nat.reduceEqDiff]; clear hK K; refine hK _ _ ?_; clear hK K; refine AWp_seq_k (fun K hK => ?_); apply s_region; (iterate 2 (apply s_q; decide; rfl; (simp only [go_sem]; rfl))); apply s_nil; simp only [AThen, ABlock]; refine hK _ _ ?_; clear hK K; apply AWp_ret)
    exact h
set_option maxHeartbeats 2000000 in
theorem nput_c (v : AV) (mk : Mark) (hu : mk.user.length < 4294967281) (H : AHeap) (hN : NB H v) (K : AV → AHeap → Prop) (h : K (.tup [.v (.bool false), .v (.int .i64 1)]) H) : ACall X 10 [v, .agg mk.cells] H K := by
  refine ACall.drop ?_
  obtain ⟨u1, u2, u3, e⟩ : ∃ u1 u2 u3, idParts [64] mk.user = .tup [.s u1, .s u2, .v (.bool u3)] := by
    unfold idParts; split <;> exact ⟨_, _, _, rfl⟩
  obtain ⟨user, at_, ts⟩ := mk
  simp only [Mark.cells] at *
  have hv : ∃ z, v = .v (.pointer z) := by
    rcases hN with rfl | ⟨bb, rfl, hbb⟩
    · exact ⟨_, rfl⟩
    · exact ⟨_, rfl⟩
  obtain ⟨z, rfl⟩ := hv
  refine ACall_intro Tryd.func10 rfl (by kernel_rfl) (by rw [Tryd.ntmps10]; simp) ?_; rw [Tryd.ntmps10]; simp only [frame0, Nat.reduceAdd]
  (refine AWp_seq_k (fun K hK => ?_); apply s_region; apply s_box; decide; (simp only [go_sem, e]; rfl); (simp only [go_sem, e]; rfl); intro b hb; (iterate 2 (apply s_q; decide; rfl; (simp only [go_sem, e]; rfl))); apply s_nil; simp only [AThen, ABlock]; refine hK _ _ ?_; clear hK K; (iterate 2 (refine AWp_seq_k (fun K hK => ?_))); apply s_region; (iterate 2 (apply s_q; decide; rfl; (simp only [go_sem, e]; rfl))); apply s_call; decide; (simp only [go_sem, e]; rfl); (simp only [go_sem, e]; rfl); apply user_c _ hu; (iterate 7 (apply s_q; decide; rfl; (simp only [go_sem, e]; rfl))); apply s_nil; simp only [AThen, ABlock]; refine hK _ _ ?_; clear hK K; refine AWp_seq_k (fun K hK => ?_); apply s_region; (iterate 3 (apply s_q; decide; rfl; (simp only [go_sem, e]; rfl))); apply s_spec; decide; rfl; rfl; (simp only [go_sem, e]; rfl); (simp only [go_sem, e]; rfl); (simp only [go_sem, e]; rfl); (simp only [go_sem, e]; rfl); trivial; apply s_gpure; decide; (simp only [go_sem, e]; rfl); (simp only [go_sem, e]; rfl); (simp only [go_sem, e]; rfl); simp [condsOk]; (simp only [go_sem, e]; rfl); (simp only [go_sem, e]; rfl); (apply nmade_c _ _ (NB.fresh hN (by assumption)); exact ⟨rfl, rfl⟩); apply s_spec; decide; rfl; rfl; (simp only [go_sem, e]; rfl); (simp only [go_sem, e]; rfl); (simp only [go_sem, e]; rfl); (simp only [go_sem, e]; rfl); simp [condsOk]; apply s_pick; decide; (simp only [go_sem, e]; rfl); (simp only [go_sem, e]; rfl); (simp only [go_sem, e]; rfl); (simp only [go_sem, e]; rfl); (simp only [go_sem, e]; rfl); (simp only [go_sem, e]; rfl); trivial; trivial; simp [condsOk]; apply s_q; decide; rfl; (simp only [go_sem, e]; rfl); apply s_spec; decide; rfl; rfl; (simp only [go_sem, e]; rfl); (simp only [go_sem, e]; rfl); (simp only [go_sem, e]; rfl); (simp only [go_sem, e]; rfl); trivial; apply s_spec; decide; rfl; rfl; (simp only [go_sem, e]; rfl); (simp only [go_sem, e]; rfl); (simp only [go_sem, e]; rfl); (simp only [go_sem, e]; rfl); simp [condsOk]; apply s_gpure; decide; (simp only [go_sem, e]; rfl); (simp only [go_sem, e]; rfl); (simp only [go_sem, e]; rfl); simp [condsOk]; (simp only [go_sem, e]; rfl); (simp only [go_sem, e]; rfl); (apply fits_c; exact ⟨rfl, rfl⟩); apply s_spec; decide; rfl; rfl; (simp only [go_sem, e]; rfl); (simp only [go_sem, e]; rfl); (simp only [go_sem, e]; rfl); (simp only [go_sem, e]; rfl); simp [condsOk]; apply s_pick; decide; (simp only [go_sem, e]; rfl); (simp only [go_sem, e]; rfl); (simp only [go_sem, e]; rfl); (simp only [go_sem, e]; rfl); (simp only [go_sem, e]; rfl); (simp only [go_sem, e]; rfl); trivial; trivial; simp [condsOk]; apply s_q; decide; rfl; (simp only [go_sem, e]; rfl); apply s_spec; decide; rfl; rfl; (simp only [go_sem, e]; rfl); (simp only [go_sem, e]; rfl); (simp only [go_sem, e]; rfl); (simp only [go_sem, e]; rfl); trivial; apply s_spec; decide; rfl; rfl; (simp only [go_sem, e]; rfl); (simp only [go_sem, e]; rfl); (simp only [go_sem, e]; rfl); (simp only [go_sem, e]; rfl); simp [condsOk]; apply s_gpure; decide; (simp only [go_sem, e]; rfl); (simp only [go_sem, e]; rfl); (simp only [go_sem, e]; rfl); simp [condsOk]; (simp only [go_sem, e]; rfl); (simp only [go_sem, e]; rfl); (apply fits_c; exact ⟨rfl, rfl⟩); apply s_spec; decide; rfl; rfl; (simp only [go_sem, e]; rfl); (simp only [go_sem, e]; rfl); (simp only [go_sem, e]; rfl); (simp only [go_sem, e]; rfl); simp [condsOk]; apply s_pick; decide; (simp only [go_sem, e]; rfl); (simp only [go_sem, e]; rfl); (simp only [go_sem, e]; rfl); (simp only [go_sem, e]; rfl); (simp only [go_sem, e]; rfl); (simp only [go_sem, e]; rfl); trivial; trivial; simp [condsOk]; apply s_nil; simp only [AThen, ABlock]; refine hK _ _ ?_; clear hK K)
  refine cond_split (by simp only [go_sem]; try rfl) (fun hc => ?_) (fun hc => ?_)
  · (refine AWp_seq_k (fun K hK => ?_); apply s_region; (iterate 2 (apply s_q; decide; rfl; (simp only [go_sem]; rfl))); apply s_nil; simp only [AThen, ABlock]; refine hK _ _ ?_; clear hK K; apply AWp_ret; simp only [AThen, ABlock]; apply end_ret; rfl; simp only [AFr.get, reduceIte, Nat.reduceEqDiff])
    exact ⟨H, Ext.fresh (by assumption), h⟩
  · cases u3 <;> simp at hc
theorem nget_c (v : AV) (u : List UInt8) (H : AHeap) (hN : NB H v) (K : AV → AHeap → Prop) (h : K (.tup [.agg [.s [], .v (.int .i64 0), .v (.int .i64 0)], .v (.bool false)]) H) : ACall X 11 [v, .s u] H K := by
  refine ACall.drop ?_
  refine ACall_intro Tryd.func11 rfl (by kernel_rfl) (by rw [Tryd.ntmps11]; simp) ?_; rw [Tryd.ntmps11]; simp only [frame0, Nat.reduceAdd]
  (refine AWp_seq_k (fun K hK => ?_); apply s_region; apply s_alloc; decide; exact zc_24; intro b hb; apply s_q; decide; rfl; (simp only [go_sem]; rfl); apply s_nil; simp only [AThen, ABlock]; refine hK _ _ ?_; clear hK K; (iterate 2 (refine AWp_seq_k (fun K hK => ?_))); apply s_region; apply s_q; decide; rfl; (simp only [go_sem]; rfl); apply s_call; decide; (simp only [go_sem]; rfl); (simp only [go_sem]; rfl); apply nmade_c v _ (NB.fresh hN (by assumption)); apply s_q; decide; rfl; (simp only [go_sem]; rfl); apply s_nil; simp only [AThen, ABlock]; refine hK _ _ ?_; clear hK K)
  refine cond_split (by simp only [go_sem]; try rfl) (fun hc => ?_) (fun hc => ?_)
  · (refine AWp_seq_k (fun K hK => ?_); apply s_region; apply s_q; decide; rfl; (simp only [go_sem]; rfl); apply s_store; (simp only [go_sem]; rfl); (simp only [go_sem]; rfl); (simp only [go_sem]; rfl); apply s_q; decide; rfl; (simp only [go_sem]; rfl); apply s_nil; simp only [AThen, ABlock]; refine hK _ _ ?_; clear hK K; apply AWp_ret)
    simp only [AThen]
    refine end_ret (av := .tup [.agg [.s [], .v (.int .i64 0), .v (.int .i64 0)], .v (.bool false)]) (by show resAV X.P _ _ [.cell 4 24, .tmp 5] = _; simp only [go_sem]; try rfl) ?_
    exact ⟨H, Ext.fresh (by assumption), h⟩
  · cases hc
theorem nmergeR_c (w v : AV) (H : AHeap) (hN : NB H v) (K : AV → AHeap → Prop) (h : K (.v (.int .i64 0)) H) : ACall X 12 [w, v] H K := by
  refine ACall_intro Tryd.func12 rfl (by kernel_rfl) (by rw [Tryd.ntmps12]; simp) ?_; rw [Tryd.ntmps12]; simp only [frame0, Nat.reduceAdd]
  (refine AWp_seq_k (fun K hK => ?_); apply s_region; apply s_q; decide; rfl; (simp only [go_sem]; rfl); apply s_nil; simp only [AThen, ABlock]; refine hK _ _ ?_; clear hK K; refine AWp_seq_k (fun K hK => ?_); apply s_region; apply s_q; decide; rfl; (simp only [go_sem]; rfl); apply s_nil; simp only [AThen, ABlock]; refine hK _ _ ?_; clear hK K; (iterate 2 (refine AWp_seq_k (fun K hK => ?_))); apply s_region; apply s_q; decide; rfl; (simp only [go_sem]; rfl); apply s_call; decide; (simp only [go_sem]; rfl); (simp only [go_sem]; rfl); apply nall_c v _ hN; (iterate 2 (apply s_q; decide; rfl; (simp only [go_sem]; rfl))); apply s_nil; simp only [AThen, ABlock]; refine hK _ _ ?_; clear hK K; apply AWp_block)
  refine AWp_loop_s (σ := Unit) [5, 11, 12, 13] (fun _ => [.v (.int .i64 0), .sl true [], .v (.int .i64 0), .v (.int .i64 0)]) (fun _ => H) (fun _ => 0) (fun _ => True) () trivial rfl rfl (fun s hs => ?_)
  simp only [List.zip_cons_cons, List.zip_nil_right]
  (refine AWp_seq_k (fun K hK => ?_); apply s_region; apply s_q; decide; rfl; (simp only [go_sem]; rfl); apply s_nil; simp only [AThen, ABlock]; refine hK _ _ ?_; clear hK K; refine AWp_seq_k (fun K hK => ?_))
  refine cond_split (by simp only [go_sem]; try rfl) (fun hc => ?_) (fun hc => ?_)
  · simp at hc
  · (apply AWp_exit; simp only [AThen, ABlock, reduceIte, Nat.reduceEqDiff]; clear hK K; refine hK _ _ ?_; clear hK K; refine AWp_seq_k (fun K hK => ?_); apply s_region; (iterate 2 (apply s_q; decide; rfl; (simp only [go_sem]; rfl))); apply s_nil; simp only [AThen, ABlock]; refine hK _ _ ?_; clear hK K; apply AWp_ret)
    exact h
theorem nmergeL_c (v : AV) (p' q' : Nat) (ms' : List (List UInt8 × Mark)) (hbd : Bd ms') (hu : ∀ m ∈ allOf ms', m.user.length < 4294967281) (H : AHeap) (hN : NB H v) (hB' : IsBoard H p' q' ms') (K : AV → AHeap → Prop)
    (h : K (.v (.int .i64 0)) H) : ACall X 12 [v, .v (.pointer (some ⟨p', 0, none⟩))] H K := by
  refine ACall.drop ?_
  obtain ⟨l, hl⟩ : ∃ l, allOf ms' = l := ⟨_, rfl⟩
  have hll : l.length ≤ 1000000 := by rw [← hl]; simp only [allOf, List.length_map, sortL_length]; exact hbd.1
  refine ACall_intro Tryd.func12 rfl (by kernel_rfl) (by rw [Tryd.ntmps12]; simp) ?_; rw [Tryd.ntmps12]; simp only [frame0, Nat.reduceAdd]
  (refine AWp_seq_k (fun K hK => ?_); apply s_region; apply s_q; decide; rfl; (simp only [go_sem]; rfl); apply s_nil; simp only [AThen, ABlock]; refine hK _ _ ?_; clear hK K; refine AWp_seq_k (fun K hK => ?_); apply s_region; apply s_q; decide; rfl; (simp only [go_sem]; rfl); apply s_nil; simp only [AThen, ABlock]; refine hK _ _ ?_; clear hK K; (iterate 2 (refine AWp_seq_k (fun K hK => ?_))); apply s_region; apply s_q; decide; rfl; (simp only [go_sem]; rfl); apply s_call; decide; (simp only [go_sem]; rfl); (simp only [go_sem]; rfl); apply all_c p' q' ms' hbd _ hB'; (iterate 2 (apply s_q; decide; rfl; (simp only [go_sem]; rfl))); apply s_nil; simp only [AThen, ABlock]; refine hK _ _ ?_; clear hK K; apply AWp_block)
  rw [hl] at hu ⊢
  refine AWp_loop_s (σ := Nat × AHeap) [0, 5, 11, 12, 13] (fun s => [v, .v (.int .i64 0), .sl false (l.map Mark.cells), .v (.int .i64 l.length), .v (.int .i64 s.1)]) (fun s => s.2) (fun s => l.length - s.1) (fun s => s.1 ≤ l.length ∧ Ext H s.2) (0, H) ⟨Nat.zero_le _, Ext.refl _⟩ rfl rfl (fun s hs => ?_)
  obtain ⟨i, L⟩ := s
  obtain ⟨hi, hE⟩ := hs
  simp only [List.zip_cons_cons, List.zip_nil_right] at hi hE ⊢
  (refine AWp_seq_k (fun K hK => ?_); apply s_region; apply s_q; decide; rfl; (simp only [go_sem]; rfl); apply s_nil; simp only [AThen, ABlock]; refine hK _ _ ?_; clear hK K; refine AWp_seq_k (fun K hK => ?_))
  refine cond_split (by simp only [go_sem]; try rfl) (fun hd => ?_) (fun hd => ?_)
  · have hlt : i < l.length := by simpa using hd
    obtain ⟨m, hm⟩ : ∃ a, l[i]? = some a := ⟨_, List.getElem?_eq_getElem hlt⟩
    have hg : (l.map Mark.cells)[i]? = some [.s m.user, .v (.int .i64 m.at_), .v (.int .i64 m.ts)] := by rw [List.getElem?_map, hm]; rfl
    have hNL := hN.ext hE
    (apply AWp_skip; simp only [AThen, ABlock]; refine hK _ _ ?_; clear hK K; refine AWp_seq_k (fun K hK => ?_); apply AWp_block; refine AWp_seq_k (fun K hK => ?_); apply s_region; (iterate 2 (apply s_q; decide; rfl; (simp only [go_sem, hg]; rfl))); apply s_alloc; decide; exact zc_24; intro b hb; apply s_store; (simp only [go_sem, hg]; rfl); (simp only [go_sem, hg]; rfl); (simp only [go_sem, hg]; rfl); apply s_nil; simp only [AThen, ABlock]; refine hK _ _ ?_; clear hK K; refine AWp_seq_k (fun K hK => ?_); apply s_region; (iterate 2 (apply s_q; decide; rfl; (simp only [go_sem, hg]; rfl))); apply s_call; decide; (simp only [go_sem, hg]; rfl); (simp only [go_sem, hg]; rfl); apply nput_c v m (hu m (List.mem_of_getElem? hm)) _ (NB.fresh hNL (by assumption)); (iterate 5 (apply s_q; decide; rfl; (simp only [go_sem, hg]; rfl))); apply s_nil; simp only [AThen, ABlock]; refine hK _ _ ?_; clear hK K; refine AWp_seq_k (fun K hK => ?_); apply s_region; apply s_q; decide; rfl; (simp only [go_sem, hg]; rfl); apply s_nil; simp only [AThen, ABlock]; refine hK _ _ ?_; clear hK K)
    refine cond_split (by simp only [go_sem]; try rfl) (fun hr => ?_) (fun hr => ?_)
    · cases hr
    · (apply AWp_skip; simp only [AThen, ABlock]; refine hK _ _ ?_; clear hK K; apply s_region; (iterate 2 (apply s_q; decide; rfl; (simp only [go_sem]; rfl))); apply s_nil; simp only [AThen, ABlock])
      refine ⟨(i + 1, _), by simp only; omega, ⟨by simp only; omega, Ext.trans hE (Ext.fresh (by assumption))⟩, ?_, by trivial⟩
      simp only [getAll, List.map_cons, List.map_nil, AFr.get, reduceIte, Nat.reduceEqDiff]
      rw [wrapS hlt (by omega)]; try rfl
  · (apply AWp_exit; simp only [AThen, ABlock, reduceIte, Nat.reduceEqDiff]; clear hK K; refine hK _ _ ?_; clear hK K; refine AWp_seq_k (fun K hK => ?_); apply s_region; (iterate 2 (apply s_q; decide; rfl; (simp only [go_sem]; rfl))); apply s_nil; simp only [AThen, ABlock]; refine hK _ _ ?_; clear hK K; apply AWp_ret)
    exact ⟨H, hE, h⟩
theorem ncontent_c (v : AV) (H : AHeap) (hN : NB H v) (Kc : AV → AHeap → Prop) (h : Kc (.agg (contentJ []).cells) H) : ACall X 7 [v] H Kc := by
  refine ACall.drop (ACall.loose ?_)
  refine ACall_intro Tryd.func7 rfl (by kernel_rfl) (by rw [Tryd.ntmps7]; simp) ?_; rw [Tryd.ntmps7]; simp only [frame0, Nat.reduceAdd]
  (refine AWp_seq_k (fun K hK => ?_); apply s_region; apply s_alloc; decide; exact zc_34; intro b hb; apply s_nil; simp only [AThen, ABlock]; refine hK _ _ ?_; clear hK K; refine AWp_seq_k (fun K hK => ?_); apply s_region; apply s_q; decide; rfl; (simp only [go_sem]; rfl); apply s_alloc; decide; exact zc_34; intro b hb; apply s_store; (simp only [go_sem]; rfl); (simp only [go_sem]; rfl); (simp only [go_sem]; rfl); apply s_nil; simp only [AThen, ABlock]; refine hK _ _ ?_; clear hK K; (iterate 2 (refine AWp_seq_k (fun K hK => ?_))); apply s_region; apply s_q; decide; rfl; (simp only [go_sem]; rfl))
  rename_i b2 hb2 _ _
  obtain ⟨b3, rfl⟩ : ∃ b3, b3 = b := ⟨_, rfl⟩
  have hb3 := hb
  clear hb
  have hN2 := NB.fresh (o := .box 34 [.v (.int .i64 5), .v (.int .i64 0), .s [], .sl true [], .sl true []]) (NB.fresh (o := .box 34 [.v (.int .i64 0), .v (.int .i64 0), .s [], .sl true [], .sl true []]) hN hb2) hb3
  (apply s_call; decide; (simp only [go_sem]; rfl); (simp only [go_sem]; rfl); apply nall_c v _ hN2; (iterate 2 (apply s_q; decide; rfl; (simp only [go_sem]; rfl))); apply s_nil; simp only [AThen, ABlock]; refine hK _ _ ?_; clear hK K; apply AWp_block)
  refine AWp_loop_s (σ := Unit) [2, 3, 8, 9, 10] (fun _ => [ptrTo b2, ptrTo b3, .sl true [], .v (.int .i64 0), .v (.int .i64 0)]) (fun _ => _) (fun _ => 0) (fun _ => True) () trivial rfl rfl (fun s hs => ?_)
  simp only [List.zip_cons_cons, List.zip_nil_right]
  (refine AWp_seq_k (fun K hK => ?_); apply s_region; apply s_q; decide; rfl; (simp only [go_sem]; rfl); apply s_nil; simp only [AThen, ABlock]; refine hK _ _ ?_; clear hK K; refine AWp_seq_k (fun K hK => ?_))
  refine cond_split (by simp only [go_sem]; try rfl) (fun hc => ?_) (fun hc => ?_)
  · simp at hc
  · have g2 := get_fresh (x := .box 34 [.v (.int .i64 5), .v (.int .i64 0), .s [], .sl true [], .sl true []]) (AHeap.get_put_same b2 (.box 34 [.v (.int .i64 0), .v (.int .i64 0), .s [], .sl true [], .sl true []]) H) hb3
    (apply AWp_exit; simp only [AThen, ABlock, reduceIte, Nat.reduceEqDiff]; clear hK K; refine hK _ _ ?_; clear hK K; refine AWp_seq_k (fun K hK => ?_); apply s_region; apply s_q; decide; rfl; (simp only [go_sem, g2]; rfl); apply s_store; (simp only [go_sem, g2]; rfl); (simp only [go_sem, g2]; rfl); (simp only [go_sem, g2]; rfl); apply s_nil; simp only [AThen, ABlock]; refine hK _ _ ?_; clear hK K; apply AWp_ret)
    refine end_ret (av := .agg [.v (.int .i64 5), .v (.int .i64 0), .s [], .sl true [], .sl true []]) (by show resAV X.P _ _ [.cell 2 34] = _; simp only [go_sem]; try rfl) ?_
    refine ⟨H, Ext.over (Ext.trans (Ext.fresh hb2) (Ext.fresh hb3)) hb2, ?_⟩
    exact h
theorem nunread_c (v : AV) (u x : List UInt8) (hx : x ≠ u) (t : Bool) (H : AHeap) (hN : NB H v) (K : AV → AHeap → Prop) (h : K (.v (.int .i64 1)) H) : ACall X 13 [v, .s u, .sl t [[.s x]]] H K := by
  refine ACall.drop ?_
  refine ACall_intro Tryd.func13 rfl (by kernel_rfl) (by rw [Tryd.ntmps13]; simp) ?_; rw [Tryd.ntmps13]; simp only [frame0, Nat.reduceAdd]
  (refine AWp_seq_k (fun K hK => ?_); apply s_region; apply s_q; decide; rfl; (simp only [go_sem]; rfl); apply s_nil; simp only [AThen, ABlock]; refine hK _ _ ?_; clear hK K; refine AWp_seq_k (fun K hK => ?_); apply s_region; apply s_q; decide; rfl; (simp only [go_sem]; rfl); apply s_nil; simp only [AThen, ABlock]; refine hK _ _ ?_; clear hK K; (iterate 2 (refine AWp_seq_k (fun K hK => ?_))); apply s_region; (iterate 2 (apply s_q; decide; rfl; (simp only [go_sem]; rfl))); apply s_call; decide; (simp only [go_sem]; rfl); (simp only [go_sem]; rfl); apply nget_c v u _ hN; (iterate 3 (apply s_q; decide; rfl; (simp only [go_sem]; rfl))); apply s_alloc; decide; exact zc_24; intro b hb; apply s_store; (simp only [go_sem]; rfl); (simp only [go_sem]; rfl); (simp only [go_sem]; rfl); apply s_q; decide; rfl; (simp only [go_sem]; rfl); apply s_nil; simp only [AThen, ABlock]; refine hK _ _ ?_; clear hK K; refine AWp_seq_k (fun K hK => ?_); apply s_region; apply s_q; decide; rfl; (simp only [go_sem]; rfl); apply s_nil; simp only [AThen, ABlock]; refine hK _ _ ?_; clear hK K)
  refine cond_split (by simp only [go_sem]; try rfl) (fun hc => ?_) (fun hc => ?_)
  · cases hc
  · (apply AWp_skip; simp only [AThen, ABlock]; refine hK _ _ ?_; clear hK K; refine AWp_seq_k (fun K hK => ?_); apply s_region; apply s_q; decide; rfl; (simp only [go_sem]; rfl); apply s_nil; simp only [AThen, ABlock]; refine hK _ _ ?_; clear hK K; (iterate 2 (refine AWp_seq_k (fun K hK => ?_))); apply s_region; (iterate 2 (apply s_q; decide; rfl; (simp only [go_sem]; rfl))); apply s_nil; simp only [AThen, ABlock]; refine hK _ _ ?_; clear hK K; apply AWp_block)
    refine AWp_loop_s (σ := Bool) [1, 2, 10, 11] (fun s => [.s u, .sl t [[.s x]], .v (.int .i64 (if s then 1 else 0)), .v (.int .i64 (if s then 1 else 0))]) (fun _ => _) (fun s => if s then 0 else 1) (fun s => True) false trivial rfl rfl (fun s hs => ?_)
    simp only [List.zip_cons_cons, List.zip_nil_right]
    cases s with
    | false =>
      ((iterate 2 (refine AWp_seq_k (fun K hK => ?_))); apply s_region; (iterate 4 (apply s_q; decide; rfl; (simp only [go_sem]; rfl))); apply s_nil; simp only [AThen, ABlock]; refine hK _ _ ?_; clear hK K)
      refine cond_split (by simp only [go_sem]; try rfl) (fun hd => ?_) (fun hd => ?_)
      · (apply AWp_skip; simp only [AThen, ABlock]; refine hK _ _ ?_; clear hK K; refine AWp_seq_k (fun K hK => ?_); apply AWp_block; refine AWp_seq_k (fun K hK => ?_); apply s_region; (iterate 6 (apply s_q; decide; rfl; (simp only [go_sem]; rfl))); apply s_nil; simp only [AThen, ABlock]; refine hK _ _ ?_; clear hK K)
        refine cond_split (by simp only [go_sem]; try rfl) (fun he => ?_) (fun he => ?_)
        · (apply s_region; (iterate 3 (apply s_q; decide; rfl; (simp only [go_sem]; rfl))); apply s_nil; simp only [AThen, ABlock]; refine hK _ _ ?_; clear hK K; apply s_region; (iterate 3 (apply s_q; decide; rfl; (simp only [go_sem]; rfl))); apply s_nil; simp only [AThen, ABlock])
          exact ⟨true, by decide, trivial, rfl, by trivial⟩
        · simp [hx] at he
      · simp at hd
    | true =>
      ((iterate 2 (refine AWp_seq_k (fun K hK => ?_))); apply s_region; (iterate 4 (apply s_q; decide; rfl; (simp only [go_sem]; rfl))); apply s_nil; simp only [AThen, ABlock]; refine hK _ _ ?_; clear hK K)
      refine cond_split (by simp only [go_sem]; try rfl) (fun hd => ?_) (fun hd => ?_)
      · simp at hd
      · (apply AWp_exit; simp only [AThen, ABlock, reduceIte, Nat.reduceEqDiff]; clear hK K; refine hK _ _ ?_; clear hK K; refine AWp_seq_k (fun K hK => ?_); apply s_region; (iterate 2 (apply s_q; decide; rfl; (simp only [go_sem]; rfl))); apply s_nil; simp only [AThen, ABlock]; refine hK _ _ ?_; clear hK K; apply AWp_ret)
        exact ⟨H, Ext.fresh (by assumption), h⟩
end Go.Proofs.YtpdfgmedbphmkaaDoor
