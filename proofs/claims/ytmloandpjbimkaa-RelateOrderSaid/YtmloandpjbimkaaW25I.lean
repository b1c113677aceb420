/-
  The guards: whether events are few and small. Contracts.
-/
import Derived.Test.YtmloandpjbimkaaW25C
set_option linter.unusedSimpArgs false
set_option linter.unusedVariables false
set_option maxRecDepth 100000
namespace Go.Proofs.Ytmloandpjbimkaa
open Go Go.AL
attribute [local irreducible] AOps AWp SOps AE AT ACall AApp

set_option maxHeartbeats 2000000 in
theorem left_c : ∀ (m : Nat) (j : J), j.size ≤ m → j.Len → ∀ (n d : Int) (H : AHeap) (K : AV → AHeap → Prop), (∀ r, K (.v (.int .i64 r)) H) → ACall X 23 [.agg j.cells, .v (.int .i64 n), .v (.int .i64 d)] H K := fun m => by
  induction m with
  | zero => intro j hs; exfalso; cases j; simp [J.size] at hs
  | succ m ih =>
  intro j hs hl n d H K h
  obtain ⟨l1, l2, l3⟩ := J.len_eq.1 hl
  have hch : ∀ x ∈ j.list, x.size ≤ m := fun x hx => by have := J.size_list hx; omega
  refine ACall.drop ?_
  rw [J.cells_eq]
  refine ACall_intro Try.func23 rfl (by kernel_rfl) (by rw [Try.ntmps23]; simp) ?_; rw [Try.ntmps23]; simp only [frame0, Nat.reduceAdd]
  refine AWp_seq_k (fun K hK => ?_); apply s_region
  apply s_box; decide; exact (by simp only [go_sem]; try rfl); exact (by simp only [go_sem]; try rfl); intro p hp
  (apply s_q; decide; rfl; (simp only [go_sem]; rfl); apply s_nil; simp only [AThen, ABlock]; refine hK _ _ ?_; clear hK K; (iterate 2 (refine AWp_seq_k (fun K hK => ?_))); apply s_region; (iterate 3 (apply s_q; decide; rfl; (simp only [go_sem]; rfl))); apply s_spec; decide; rfl; rfl; (simp only [go_sem]; rfl); (simp only [go_sem]; rfl); (simp only [go_sem]; rfl); (simp only [go_sem]; rfl); trivial; apply s_spec; decide; rfl; rfl; (simp only [go_sem]; rfl); (simp only [go_sem]; rfl); (simp only [go_sem]; rfl); (simp only [go_sem]; rfl); simp [condsOk]; apply s_pick; decide; (simp only [go_sem]; rfl); (simp only [go_sem]; rfl); (simp only [go_sem]; rfl); (simp only [go_sem]; rfl); (simp only [go_sem]; rfl); (simp only [go_sem]; rfl); trivial; trivial; simp [condsOk]; apply s_q; decide; rfl; (simp only [go_sem]; rfl); apply s_spec; decide; rfl; rfl; (simp only [go_sem]; rfl); (simp only [go_sem]; rfl); (simp only [go_sem]; rfl); (simp only [go_sem]; rfl); trivial; (iterate 3 (apply s_spec; decide; rfl; rfl; (simp only [go_sem]; rfl); (simp only [go_sem]; rfl); (simp only [go_sem]; rfl); (simp only [go_sem]; rfl); simp [condsOk])); apply s_pick; decide; (simp only [go_sem]; rfl); (simp only [go_sem]; rfl); (simp only [go_sem]; rfl); (simp only [go_sem]; rfl); (simp only [go_sem]; rfl); (simp only [go_sem]; rfl); trivial; trivial; simp [condsOk]; apply s_q; decide; rfl; (simp only [go_sem]; rfl); apply s_spec; decide; rfl; rfl; (simp only [go_sem]; rfl); (simp only [go_sem]; rfl); (simp only [go_sem]; rfl); (simp only [go_sem]; rfl); trivial; (iterate 3 (apply s_spec; decide; rfl; rfl; (simp only [go_sem]; rfl); (simp only [go_sem]; rfl); (simp only [go_sem]; rfl); (simp only [go_sem]; rfl); simp [condsOk])); apply s_pick; decide; (simp only [go_sem]; rfl); (simp only [go_sem]; rfl); (simp only [go_sem]; rfl); (simp only [go_sem]; rfl); (simp only [go_sem]; rfl); (simp only [go_sem]; rfl); trivial; trivial; simp [condsOk]; apply s_q; decide; rfl; (simp only [go_sem]; rfl); apply s_spec; decide; rfl; rfl; (simp only [go_sem]; rfl); (simp only [go_sem]; rfl); (simp only [go_sem]; rfl); (simp only [go_sem]; rfl); trivial; (iterate 3 (apply s_spec; decide; rfl; rfl; (simp only [go_sem]; rfl); (simp only [go_sem]; rfl); (simp only [go_sem]; rfl); (simp only [go_sem]; rfl); simp [condsOk])); apply s_pick; decide; (simp only [go_sem]; rfl); (simp only [go_sem]; rfl); (simp only [go_sem]; rfl); (simp only [go_sem]; rfl); (simp only [go_sem]; rfl); (simp only [go_sem]; rfl); trivial; trivial; simp [condsOk]; apply s_nil; simp only [AThen, ABlock]; refine hK _ _ ?_; clear hK K)
  generalize hgenq : AHeap.put p _ H = M; obtain ⟨g1, hextq⟩ := gen_ex hgenq hp; have hE := hextq; clear hextq hgenq
  skip
  refine cond_split (by simp only [go_sem]; try rfl) (fun hc => ?_) (fun hc => ?_)
  · (refine AWp_seq_k (fun K hK => ?_); apply s_region; apply s_q; decide; rfl; (simp only [go_sem]; rfl); apply s_nil; simp only [AThen, ABlock]; refine hK _ _ ?_; clear hK K; apply AWp_ret; simp only [AThen, ABlock]; apply end_ret; rfl; simp only [AFr.get, reduceIte, Nat.reduceEqDiff])
    exact ⟨H, hE, h _⟩
  (apply AWp_skip; simp only [AThen, ABlock]; refine hK _ _ ?_; clear hK K; refine AWp_seq_k (fun K hK => ?_); apply s_region; (iterate 3 (apply s_q; decide; rfl; (simp only [go_sem]; rfl))); apply s_nil; simp only [AThen, ABlock]; refine hK _ _ ?_; clear hK K; (iterate 2 (refine AWp_seq_k (fun K hK => ?_))); apply s_region; apply s_q; decide; rfl; (simp only [go_sem]; rfl); apply s_nil; simp only [AThen, ABlock]; refine hK _ _ ?_; clear hK K; apply AWp_block)
  generalize IntKind.i64.wrap (n - 1) = n1
  refine AWp_loop_s (σ := Nat) [1, 2, 3, 7] (fun i => [.v (.int .i64 n1), .v (.int .i64 d), ptrTo p, .v (.int .i64 i)]) (fun _ => M) (fun i => j.keys.length - i) (fun i => i ≤ j.keys.length) 0 (Nat.zero_le _) rfl rfl (fun i hi => ?_)
  simp only [List.zip_cons_cons, List.zip_nil_right]
  ((iterate 2 (refine AWp_seq_k (fun K hK => ?_))); apply s_region; (iterate 5 (apply s_q; decide; rfl; (simp only [go_sem, g1]; rfl))); apply s_nil; simp only [AThen, ABlock]; refine hK _ _ ?_; clear hK K)
  refine cond_split (by simp only [go_sem]; try rfl) (fun hd => ?_) (fun hd => ?_)
  · have hlt : i < j.keys.length := by simpa using hd
    obtain ⟨ky, hky⟩ := gete hlt
    have hgk := jstr_at hky
    (apply AWp_skip; simp only [AThen, ABlock]; refine hK _ _ ?_; clear hK K; refine AWp_seq_k (fun K hK => ?_); apply AWp_block; refine AWp_seq_k (fun K hK => ?_); apply s_region; (iterate 7 (apply s_q; decide; rfl; (simp only [go_sem, g1, hgk]; rfl))); apply s_nil; simp only [AThen, ABlock]; refine hK _ _ ?_; clear hK K)
    refine cond_split (by simp only [go_sem]; try rfl) (fun he => ?_) (fun he => ?_)
    · (refine AWp_seq_k (fun K hK => ?_); apply s_region; apply s_q; decide; rfl; (simp only [go_sem]; rfl); apply s_nil; simp only [AThen, ABlock]; refine hK _ _ ?_; clear hK K; apply AWp_ret; simp only [AThen, ABlock]; apply end_ret; rfl; simp only [AFr.get, reduceIte, Nat.reduceEqDiff])
      exact ⟨H, hE, h _⟩
    · (apply AWp_skip; simp only [AThen, ABlock]; refine hK _ _ ?_; clear hK K; apply s_region; (iterate 3 (apply s_q; decide; rfl; (simp only [go_sem]; rfl))); apply s_nil; simp only [AThen, ABlock])
      refine ⟨i + 1, by omega, by omega, ?_, by trivial⟩
      simp only [getAll, List.map_cons, List.map_nil, AFr.get]
      rw [wrapS hlt (by omega)]; rfl
  (apply AWp_exit; simp only [AThen, ABlock, reduceIte, Nat.reduceEqDiff]; clear hK K; refine hK _ _ ?_; clear hK K; (iterate 2 (refine AWp_seq_k (fun K hK => ?_))); apply s_region; apply s_q; decide; rfl; (simp only [go_sem]; rfl); apply s_nil; simp only [AThen, ABlock]; refine hK _ _ ?_; clear hK K; apply AWp_block)
  refine AWp_loop_s (σ := Nat × Int) [1, 2, 3, 8] (fun s => [.v (.int .i64 s.2), .v (.int .i64 d), ptrTo p, .v (.int .i64 s.1)]) (fun _ => M) (fun s => j.list.length - s.1) (fun s => s.1 ≤ j.list.length) (0, n1) (Nat.zero_le _) rfl rfl (fun s hs => ?_)
  obtain ⟨i, n2⟩ := s
  simp only [List.zip_cons_cons, List.zip_nil_right] at hs ⊢
  ((iterate 2 (refine AWp_seq_k (fun K hK => ?_))); apply s_region; (iterate 6 (apply s_q; decide; rfl; (simp only [go_sem, g1]; rfl))); apply s_spec; decide; rfl; rfl; (simp only [go_sem, g1]; rfl); (simp only [go_sem, g1]; rfl); (simp only [go_sem, g1]; rfl); (simp only [go_sem, g1]; rfl); trivial; apply s_spec; decide; rfl; rfl; (simp only [go_sem, g1]; rfl); (simp only [go_sem, g1]; rfl); (simp only [go_sem, g1]; rfl); (simp only [go_sem, g1]; rfl); simp [condsOk]; apply s_pick; decide; (simp only [go_sem, g1]; rfl); (simp only [go_sem, g1]; rfl); (simp only [go_sem, g1]; rfl); (simp only [go_sem, g1]; rfl); (simp only [go_sem, g1]; rfl); (simp only [go_sem, g1]; rfl); trivial; simp [condsOk]; trivial; apply s_nil; simp only [AThen, ABlock]; refine hK _ _ ?_; clear hK K)
  refine cond_split (by simp only [go_sem]; try rfl) (fun hd => ?_) (fun hd => ?_)
  · have hlt : i < j.list.length := by simp at hd; omega
    obtain ⟨x, hx⟩ := gete hlt
    have hgx := jget_at hx
    have hxm := List.mem_of_getElem? hx
    have hL : ∀ (n d : Int) (H : AHeap) (K : AV → AHeap → Prop), (∀ r, K (.v (.int .i64 r)) H) → ACall X 23 [.agg [.v (.int .i64 x.kind), .v (.int .i64 x.int), .s x.text, .sl false (x.keys.map strCells), .sl false (x.list.map J.cells)], .v (.int .i64 n), .v (.int .i64 d)] H K := fun n d H K hk => by
      have := ih x (hch x hxm) (l3 x hxm) n d H K hk
      rwa [J.cells_eq] at this
    (apply AWp_skip; simp only [AThen, ABlock]; refine hK _ _ ?_; clear hK K; refine AWp_seq_k (fun K hK => ?_); apply AWp_block; apply s_region; (iterate 8 (apply s_q; decide; rfl; (simp only [go_sem, g1, hgx]; rfl))); apply s_call; decide; (simp only [go_sem, g1, hgx]; rfl); (simp only [go_sem, g1, hgx]; rfl); apply hL; intro n3; apply s_q; decide; rfl; (simp only [go_sem, g1, hgx]; rfl); apply s_nil; simp only [AThen, ABlock]; refine hK _ _ ?_; clear hK K; apply s_region; (iterate 3 (apply s_q; decide; rfl; (simp only [go_sem, g1, hgx]; rfl))); apply s_nil; simp only [AThen, ABlock])
    refine ⟨(i + 1, n3), by simp only; omega, by simp only; omega, ?_, by trivial⟩
    simp only [getAll, List.map_cons, List.map_nil, AFr.get, reduceIte, Nat.reduceEqDiff]
    rw [wrapS hlt (by omega)]; try rfl
  · (apply AWp_exit; simp only [AThen, ABlock, reduceIte, Nat.reduceEqDiff]; clear hK K; refine hK _ _ ?_; clear hK K; refine AWp_seq_k (fun K hK => ?_); apply s_region; (iterate 2 (apply s_q; decide; rfl; (simp only [go_sem]; rfl))); apply s_nil; simp only [AThen, ABlock]; refine hK _ _ ?_; clear hK K; apply AWp_ret)
    exact ⟨H, hE, h _⟩
theorem sig_at {l : List (List UInt8 × List UInt8)} {i : Nat} {c : List UInt8 × List UInt8} (h : l[i]? = some c) : (l.map sigCells)[i]? = some [.s c.1, .s c.2] := by rw [List.getElem?_map, h]; rfl
set_option maxHeartbeats 2000000 in
theorem few05_c (e : Ev) (hl : e.content.Len) (hp : e.prev.length ≤ 4611686018427387904) (ha : e.auth.length ≤ 4611686018427387904) (hs : e.sigs.length ≤ 4611686018427387904) (H : AHeap) (K : AV → AHeap → Prop) (h : ∀ b, K (.v (.bool b)) H) : ACall X 9 [.agg e.cells] H K := by
  refine ACall.drop ?_
  have hL : ∀ (n d : Int) (H : AHeap) (K : AV → AHeap → Prop), (∀ r, K (.v (.int .i64 r)) H) → ACall X 23 [.agg [.v (.int .i64 e.content.kind), .v (.int .i64 e.content.int), .s e.content.text, .sl false (e.content.keys.map strCells), .sl false (e.content.list.map J.cells)], .v (.int .i64 n), .v (.int .i64 d)] H K := fun n d H K hk => by
    have := left_c _ e.content (Nat.le_refl _) hl n d H K hk
    rwa [J.cells_eq] at this
  rw [Ev.cells]
  refine ACall_intro Try.func9 rfl (by kernel_rfl) (by rw [Try.ntmps9]; simp) ?_; rw [Try.ntmps9]; simp only [frame0, Nat.reduceAdd]
  refine AWp_seq_k (fun K hK => ?_); apply s_region
  apply s_box; decide; exact (by simp only [go_sem]; try rfl); exact (by simp only [go_sem]; try rfl); intro p hp
  (apply s_q; decide; rfl; (simp only [go_sem]; rfl); apply s_nil; simp only [AThen, ABlock]; refine hK _ _ ?_; clear hK K; (iterate 2 (refine AWp_seq_k (fun K hK => ?_))); apply s_region; (iterate 21 (apply s_q; decide; rfl; (simp only [go_sem]; rfl))); apply s_spec; decide; rfl; rfl; (simp only [go_sem]; rfl); (simp only [go_sem]; rfl); (simp only [go_sem]; rfl); (simp only [go_sem]; rfl); trivial; (iterate 3 (apply s_spec; decide; rfl; rfl; (simp only [go_sem]; rfl); (simp only [go_sem]; rfl); (simp only [go_sem]; rfl); (simp only [go_sem]; rfl); simp [condsOk])); apply s_pick; decide; (simp only [go_sem]; rfl); (simp only [go_sem]; rfl); (simp only [go_sem]; rfl); (simp only [go_sem]; rfl); (simp only [go_sem]; rfl); (simp only [go_sem]; rfl); trivial; trivial; simp [condsOk]; apply s_q; decide; rfl; (simp only [go_sem]; rfl); apply s_spec; decide; rfl; rfl; (simp only [go_sem]; rfl); (simp only [go_sem]; rfl); (simp only [go_sem]; rfl); (simp only [go_sem]; rfl); trivial; (iterate 3 (apply s_spec; decide; rfl; rfl; (simp only [go_sem]; rfl); (simp only [go_sem]; rfl); (simp only [go_sem]; rfl); (simp only [go_sem]; rfl); simp [condsOk])); apply s_pick; decide; (simp only [go_sem]; rfl); (simp only [go_sem]; rfl); (simp only [go_sem]; rfl); (simp only [go_sem]; rfl); (simp only [go_sem]; rfl); (simp only [go_sem]; rfl); trivial; trivial; simp [condsOk]; apply s_q; decide; rfl; (simp only [go_sem]; rfl); apply s_spec; decide; rfl; rfl; (simp only [go_sem]; rfl); (simp only [go_sem]; rfl); (simp only [go_sem]; rfl); (simp only [go_sem]; rfl); trivial; (iterate 3 (apply s_spec; decide; rfl; rfl; (simp only [go_sem]; rfl); (simp only [go_sem]; rfl); (simp only [go_sem]; rfl); (simp only [go_sem]; rfl); simp [condsOk])); apply s_pick; decide; (simp only [go_sem]; rfl); (simp only [go_sem]; rfl); (simp only [go_sem]; rfl); (simp only [go_sem]; rfl); (simp only [go_sem]; rfl); (simp only [go_sem]; rfl); trivial; trivial; simp [condsOk]; apply s_nil; simp only [AThen, ABlock]; refine hK _ _ ?_; clear hK K)
  generalize hgenq : AHeap.put p _ H = M; obtain ⟨g1, hextq⟩ := gen_ex hgenq hp; have hE := hextq; clear hextq hgenq
  skip
  refine cond_split (by simp only [go_sem]; try rfl) (fun hc => ?_) (fun hc => ?_)
  · (refine AWp_seq_k (fun K hK => ?_); apply s_region; apply s_q; decide; rfl; (simp only [go_sem]; rfl); apply s_nil; simp only [AThen, ABlock]; refine hK _ _ ?_; clear hK K; apply AWp_ret; simp only [AThen, ABlock]; apply end_ret; rfl; simp only [AFr.get, reduceIte, Nat.reduceEqDiff])
    exact ⟨H, hE, h _⟩
  (apply AWp_skip; simp only [AThen, ABlock]; refine hK _ _ ?_; clear hK K; (iterate 2 (refine AWp_seq_k (fun K hK => ?_))); apply s_region; apply s_q; decide; rfl; (simp only [go_sem]; rfl); apply s_nil; simp only [AThen, ABlock]; refine hK _ _ ?_; clear hK K; apply AWp_block)
  refine AWp_loop_s (σ := Nat) [1, 3] (fun i => [ptrTo p, .v (.int .i64 i)]) (fun _ => M) (fun i => e.prev.length - i) (fun i => i ≤ e.prev.length) 0 (Nat.zero_le _) rfl rfl (fun i hi => ?_)
  simp only [List.zip_cons_cons, List.zip_nil_right]
  ((iterate 2 (refine AWp_seq_k (fun K hK => ?_))); apply s_region; (iterate 5 (apply s_q; decide; rfl; (simp only [go_sem, g1]; rfl))); apply s_nil; simp only [AThen, ABlock]; refine hK _ _ ?_; clear hK K)
  refine cond_split (by simp only [go_sem]; try rfl) (fun hd => ?_) (fun hd => ?_)
  · have hlt : i < e.prev.length := by simpa using hd
    obtain ⟨ky, hky⟩ := gete hlt
    have hgk := jstr_at hky
    (apply AWp_skip; simp only [AThen, ABlock]; refine hK _ _ ?_; clear hK K; refine AWp_seq_k (fun K hK => ?_); apply AWp_block; refine AWp_seq_k (fun K hK => ?_); apply s_region; (iterate 7 (apply s_q; decide; rfl; (simp only [go_sem, g1, hgk]; rfl))); apply s_nil; simp only [AThen, ABlock]; refine hK _ _ ?_; clear hK K)
    refine cond_split (by simp only [go_sem]; try rfl) (fun he => ?_) (fun he => ?_)
    · (refine AWp_seq_k (fun K hK => ?_); apply s_region; apply s_q; decide; rfl; (simp only [go_sem]; rfl); apply s_nil; simp only [AThen, ABlock]; refine hK _ _ ?_; clear hK K; apply AWp_ret; simp only [AThen, ABlock]; apply end_ret; rfl; simp only [AFr.get, reduceIte, Nat.reduceEqDiff])
      exact ⟨H, hE, h _⟩
    · (apply AWp_skip; simp only [AThen, ABlock]; refine hK _ _ ?_; clear hK K; apply s_region; (iterate 3 (apply s_q; decide; rfl; (simp only [go_sem]; rfl))); apply s_nil; simp only [AThen, ABlock])
      refine ⟨i + 1, by omega, by omega, ?_, by trivial⟩
      simp only [getAll, List.map_cons, List.map_nil, AFr.get]
      rw [wrapS hlt (by omega)]; rfl
  (apply AWp_exit; simp only [AThen, ABlock, reduceIte, Nat.reduceEqDiff]; clear hK K; refine hK _ _ ?_; clear hK K; (iterate 2 (refine AWp_seq_k (fun K hK => ?_))); apply s_region; apply s_q; decide; rfl; (simp only [go_sem]; rfl); apply s_nil; simp only [AThen, ABlock]; refine hK _ _ ?_; clear hK K; apply AWp_block)
  refine AWp_loop_s (σ := Nat) [1, 4] (fun i => [ptrTo p, .v (.int .i64 i)]) (fun _ => M) (fun i => e.auth.length - i) (fun i => i ≤ e.auth.length) 0 (Nat.zero_le _) rfl rfl (fun i hi => ?_)
  simp only [List.zip_cons_cons, List.zip_nil_right]
  ((iterate 2 (refine AWp_seq_k (fun K hK => ?_))); apply s_region; (iterate 5 (apply s_q; decide; rfl; (simp only [go_sem, g1]; rfl))); apply s_nil; simp only [AThen, ABlock]; refine hK _ _ ?_; clear hK K)
  refine cond_split (by simp only [go_sem]; try rfl) (fun hd => ?_) (fun hd => ?_)
  · have hlt : i < e.auth.length := by simpa using hd
    obtain ⟨ky, hky⟩ := gete hlt
    have hgk := jstr_at hky
    (apply AWp_skip; simp only [AThen, ABlock]; refine hK _ _ ?_; clear hK K; refine AWp_seq_k (fun K hK => ?_); apply AWp_block; refine AWp_seq_k (fun K hK => ?_); apply s_region; (iterate 7 (apply s_q; decide; rfl; (simp only [go_sem, g1, hgk]; rfl))); apply s_nil; simp only [AThen, ABlock]; refine hK _ _ ?_; clear hK K)
    refine cond_split (by simp only [go_sem]; try rfl) (fun he => ?_) (fun he => ?_)
    · (refine AWp_seq_k (fun K hK => ?_); apply s_region; apply s_q; decide; rfl; (simp only [go_sem]; rfl); apply s_nil; simp only [AThen, ABlock]; refine hK _ _ ?_; clear hK K; apply AWp_ret; simp only [AThen, ABlock]; apply end_ret; rfl; simp only [AFr.get, reduceIte, Nat.reduceEqDiff])
      exact ⟨H, hE, h _⟩
    · (apply AWp_skip; simp only [AThen, ABlock]; refine hK _ _ ?_; clear hK K; apply s_region; (iterate 3 (apply s_q; decide; rfl; (simp only [go_sem]; rfl))); apply s_nil; simp only [AThen, ABlock])
      refine ⟨i + 1, by omega, by omega, ?_, by trivial⟩
      simp only [getAll, List.map_cons, List.map_nil, AFr.get]
      rw [wrapS hlt (by omega)]; rfl
  (apply AWp_exit; simp only [AThen, ABlock, reduceIte, Nat.reduceEqDiff]; clear hK K; refine hK _ _ ?_; clear hK K; (iterate 2 (refine AWp_seq_k (fun K hK => ?_))); apply s_region; apply s_q; decide; rfl; (simp only [go_sem]; rfl); apply s_nil; simp only [AThen, ABlock]; refine hK _ _ ?_; clear hK K; apply AWp_block)
  refine AWp_loop_s (σ := Nat) [1, 5] (fun i => [ptrTo p, .v (.int .i64 i)]) (fun _ => M) (fun i => e.sigs.length - i) (fun i => i ≤ e.sigs.length) 0 (Nat.zero_le _) rfl rfl (fun i hi => ?_)
  simp only [List.zip_cons_cons, List.zip_nil_right]
  ((iterate 2 (refine AWp_seq_k (fun K hK => ?_))); apply s_region; (iterate 5 (apply s_q; decide; rfl; (simp only [go_sem, g1]; rfl))); apply s_nil; simp only [AThen, ABlock]; refine hK _ _ ?_; clear hK K)
  refine cond_split (by simp only [go_sem]; try rfl) (fun hd => ?_) (fun hd => ?_)
  · have hlt : i < e.sigs.length := by simpa using hd
    obtain ⟨ky, hky⟩ := gete hlt
    have hgk := sig_at hky
    (apply AWp_skip; simp only [AThen, ABlock]; refine hK _ _ ?_; clear hK K; refine AWp_seq_k (fun K hK => ?_); apply AWp_block; refine AWp_seq_k (fun K hK => ?_))
    apply AWp_drawA [0, 1, 2, 3, 4, 5, 6, 7, 8, 9, 10, 11, 12, 13, 14, 15] [] 0 (by exact mixed); kernel_rfl; (simp only [go_sem]; rfl); (simp only [go_sem]; rfl)
    ((iterate 16 (apply e_q; decide; (simp only [go_sem, g1, hgk]; rfl))); apply e_nil; apply t_nil; simp only [AThen, ABlock]; refine hK _ _ ?_; clear hK K)
    refine cond_split (by simp only [go_sem]; try rfl) (fun he => ?_) (fun he => ?_)
    · (refine AWp_seq_k (fun K hK => ?_); apply s_region; apply s_q; decide; rfl; (simp only [go_sem]; rfl); apply s_nil; simp only [AThen, ABlock]; refine hK _ _ ?_; clear hK K; apply AWp_ret; simp only [AThen, ABlock]; apply end_ret; rfl; simp only [AFr.get, reduceIte, Nat.reduceEqDiff])
      exact ⟨H, hE, h _⟩
    · (apply AWp_skip; simp only [AThen, ABlock]; refine hK _ _ ?_; clear hK K; apply s_region; (iterate 3 (apply s_q; decide; rfl; (simp only [go_sem]; rfl))); apply s_nil; simp only [AThen, ABlock])
      refine ⟨i + 1, by omega, by omega, ?_, by trivial⟩
      simp only [getAll, List.map_cons, List.map_nil, AFr.get]
      rw [wrapS hlt (by omega)]; rfl
  (apply AWp_exit; simp only [AThen, ABlock, reduceIte, Nat.reduceEqDiff]; clear hK K; refine hK _ _ ?_; clear hK K; refine AWp_seq_k (fun K hK => ?_); apply s_region; (iterate 2 (apply s_q; decide; rfl; (simp only [go_sem, g1]; rfl))); apply s_call; decide; (simp only [go_sem, g1]; rfl); (simp only [go_sem, g1]; rfl); apply hL; intro n3; (iterate 2 (apply s_q; decide; rfl; (simp only [go_sem, g1]; rfl))); apply s_nil; simp only [AThen, ABlock]; refine hK _ _ ?_; clear hK K; apply AWp_ret)
  exact ⟨H, hE, h _⟩
def Kn.Wide (k : Kn) : Prop := k.ev.content.Len ∧ k.ev.prev.length ≤ 4611686018427387904 ∧ k.ev.auth.length ≤ 4611686018427387904 ∧ k.ev.sigs.length ≤ 4611686018427387904 ∧ k.ev.sender.length ≤ 4611686018427387904
theorem few25_c (t : Bool) (l : List Kn) (hl : l.length ≤ 4611686018427387904) (hw : ∀ k ∈ l, k.Wide) (name : List UInt8) (H : AHeap) (K : AV → AHeap → Prop) (h : ∀ b : Bool, (b = true → l.length ≤ 30) → K (.v (.bool b)) H) : ACall X 13 [.sl t (l.map Kn.cells), .s name] H K := by
  refine ACall_intro Try.func13 rfl (by kernel_rfl) (by rw [Try.ntmps13]; simp) ?_; rw [Try.ntmps13]; simp only [frame0, Nat.reduceAdd]
  (refine AWp_seq_k (fun K hK => ?_); apply s_region; apply s_q; decide; rfl; (simp only [go_sem]; rfl); apply s_nil; simp only [AThen, ABlock]; refine hK _ _ ?_; clear hK K; (iterate 2 (refine AWp_seq_k (fun K hK => ?_))); apply s_region; (iterate 4 (apply s_q; decide; rfl; (simp only [go_sem]; rfl))); apply s_spec; decide; rfl; rfl; (simp only [go_sem]; rfl); (simp only [go_sem]; rfl); (simp only [go_sem]; rfl); (simp only [go_sem]; rfl); trivial; (iterate 2 (apply s_spec; decide; rfl; rfl; (simp only [go_sem]; rfl); (simp only [go_sem]; rfl); (simp only [go_sem]; rfl); (simp only [go_sem]; rfl); simp [condsOk])); apply s_pick; decide; (simp only [go_sem]; rfl); (simp only [go_sem]; rfl); (simp only [go_sem]; rfl); (simp only [go_sem]; rfl); (simp only [go_sem]; rfl); (simp only [go_sem]; rfl); trivial; trivial; simp [condsOk]; apply s_nil; simp only [AThen, ABlock]; refine hK _ _ ?_; clear hK K)
  refine cond_split (by simp only [go_sem]; try rfl) (fun hc => ?_) (fun hc => ?_)
  · (refine AWp_seq_k (fun K hK => ?_); apply s_region; apply s_q; decide; rfl; (simp only [go_sem]; rfl); apply s_nil; simp only [AThen, ABlock]; refine hK _ _ ?_; clear hK K; apply AWp_ret; simp only [AThen, ABlock]; apply end_ret; rfl; simp only [AFr.get, reduceIte, Nat.reduceEqDiff])
    exact h false (fun e => by cases e)
  have h30 : l.length ≤ 30 := by
    simp at hc; omega
  (apply AWp_skip; simp only [AThen, ABlock]; refine hK _ _ ?_; clear hK K; (iterate 2 (refine AWp_seq_k (fun K hK => ?_))); apply s_region; apply s_q; decide; rfl; (simp only [go_sem]; rfl); apply s_nil; simp only [AThen, ABlock]; refine hK _ _ ?_; clear hK K; apply AWp_block)
  refine AWp_loop_s (σ := Nat) [0, 5] (fun i => [.sl t (l.map Kn.cells), .v (.int .i64 i)]) (fun _ => H) (fun i => l.length - i) (fun i => i ≤ l.length) 0 (Nat.zero_le _) rfl rfl (fun i hi => ?_)
  simp only [List.zip_cons_cons, List.zip_nil_right]
  ((iterate 2 (refine AWp_seq_k (fun K hK => ?_))); apply s_region; (iterate 4 (apply s_q; decide; rfl; (simp only [go_sem]; rfl))); apply s_nil; simp only [AThen, ABlock]; refine hK _ _ ?_; clear hK K)
  refine cond_split (by simp only [go_sem]; try rfl) (fun hd => ?_) (fun hd => ?_)
  · have hlt : i < l.length := by simpa using hd
    obtain ⟨k, hm⟩ := gete hlt
    obtain ⟨w1, w2, w3, w4, w5⟩ := hw k (List.mem_of_getElem? hm)
    have hF : ∀ (H : AHeap) (K : AV → AHeap → Prop), (∀ b, K (.v (.bool b)) H) → ACall X 9 [.agg [.s k.ev.room, .s k.ev.type, .s k.ev.sender, .v (.bool k.ev.isState), .s k.ev.key, .v (.int .i64 k.ev.content.kind), .v (.int .i64 k.ev.content.int), .s k.ev.content.text, .sl false (k.ev.content.keys.map strCells), .sl false (k.ev.content.list.map J.cells),
    .sl false (k.ev.prev.map strCells), .sl false (k.ev.auth.map strCells), .v (.int .i64 k.ev.depth), .v (.int .i64 k.ev.ts), .s k.ev.hash, .sl false (k.ev.sigs.map sigCells)]] H K := fun H K hk => few05_c k.ev w1 w2 w3 w4 H K hk
    have hkn := kn_at hm
    cases hq : decide ((100 : Int) < (k.name.length : Int)) with
    | true =>
      (apply AWp_skip; simp only [AThen, ABlock]; refine hK _ _ ?_; clear hK K; refine AWp_seq_k (fun K hK => ?_); apply AWp_block; refine AWp_seq_k (fun K hK => ?_); apply s_region; (iterate 8 (apply s_q; decide; rfl; (simp only [go_sem, hkn, hq]; rfl))); (iterate 2 (apply s_spec; decide; rfl; rfl; (simp only [go_sem, hkn, hq]; rfl); (simp only [go_sem, hkn, hq]; rfl); (simp only [go_sem, hkn, hq]; rfl); (simp only [go_sem, hkn, hq]; rfl); trivial)); (iterate 4 (apply s_when (av := (.v (.bool false))); decide; (simp only [go_sem, hkn, hq]; rfl); (simp only [go_sem, hkn, hq]; rfl); (simp only [go_sem, hkn, hq]; rfl); trivial; (focus (intro hg; first | (cases hg; done) | (simp at hg; done))))); apply s_spec; decide; rfl; rfl; (simp only [go_sem, hkn, hq]; rfl); (simp only [go_sem, hkn, hq]; rfl); (simp only [go_sem, hkn, hq]; rfl); (simp only [go_sem, hkn, hq]; rfl); trivial; apply s_pick; decide; (simp only [go_sem, hkn, hq]; rfl); (simp only [go_sem, hkn, hq]; rfl); (simp only [go_sem, hkn, hq]; rfl); (simp only [go_sem, hkn, hq]; rfl); (simp only [go_sem, hkn, hq]; rfl); (simp only [go_sem, hkn, hq]; rfl); trivial; trivial; trivial; apply s_nil; simp only [AThen, ABlock]; refine hK _ _ ?_; clear hK K)
      refine cond_split (by simp only [go_sem]; try rfl) (fun he => ?_) (fun he => ?_)
      · (refine AWp_seq_k (fun K hK => ?_); apply s_region; apply s_q; decide; rfl; (simp only [go_sem]; rfl); apply s_nil; simp only [AThen, ABlock]; refine hK _ _ ?_; clear hK K; apply AWp_ret; simp only [AThen, ABlock]; apply end_ret; rfl; simp only [AFr.get, reduceIte, Nat.reduceEqDiff])
        exact h false (fun e => by cases e)
      · cases he
    | false =>
      (apply AWp_skip; simp only [AThen, ABlock]; refine hK _ _ ?_; clear hK K; refine AWp_seq_k (fun K hK => ?_); apply AWp_block; refine AWp_seq_k (fun K hK => ?_); apply s_region; (iterate 8 (apply s_q; decide; rfl; (simp only [go_sem, hkn, hq]; rfl))); (iterate 2 (apply s_spec; decide; rfl; rfl; (simp only [go_sem, hkn, hq]; rfl); (simp only [go_sem, hkn, hq]; rfl); (simp only [go_sem, hkn, hq]; rfl); (simp only [go_sem, hkn, hq]; rfl); trivial)); apply s_when; decide; (simp only [go_sem, hkn, hq]; rfl); (simp only [go_sem, hkn, hq]; rfl); (simp only [go_sem, hkn, hq]; rfl); trivial; (intro hg; (focus (simp only [go_sem, hkn]; (try rfl); done))); (iterate 2 (apply s_spec; decide; rfl; rfl; (simp only [go_sem, hkn, hq]; rfl); (simp only [go_sem, hkn, hq]; rfl); (simp only [go_sem, hkn, hq]; rfl); (simp only [go_sem, hkn, hq]; rfl); trivial)))
      apply s_ycall; decide; (simp only [go_sem, hq]; rfl); simp only [go_sem, hq]; (simp only [go_sem, hq]; rfl); trivial; (simp only [go_sem, hq]; rfl); (simp only [go_sem, hq]; rfl); (simp only [go_sem, hq]; rfl); apply hF; intro b2
      (apply s_spec; decide; rfl; rfl; (simp only [go_sem, hq]; rfl); (simp only [go_sem, hq]; rfl); (simp only [go_sem, hq]; rfl); (simp only [go_sem, hq]; rfl); trivial; apply s_pick; decide; (simp only [go_sem, hq]; rfl); (simp only [go_sem, hq]; rfl); (simp only [go_sem, hq]; rfl); (simp only [go_sem, hq]; rfl); (simp only [go_sem, hq]; rfl); (simp only [go_sem, hq]; rfl); trivial; trivial; trivial)
      apply s_nil; simp only [AThen, ABlock]; refine hK _ _ ?_; clear hK K
      refine cond_split (by simp only [go_sem]; try rfl) (fun he => ?_) (fun he => ?_)
      · (refine AWp_seq_k (fun K hK => ?_); apply s_region; apply s_q; decide; rfl; (simp only [go_sem]; rfl); apply s_nil; simp only [AThen, ABlock]; refine hK _ _ ?_; clear hK K; apply AWp_ret; simp only [AThen, ABlock]; apply end_ret; rfl; simp only [AFr.get, reduceIte, Nat.reduceEqDiff])
        exact h false (fun e => by cases e)
      · (apply AWp_skip; simp only [AThen, ABlock]; refine hK _ _ ?_; clear hK K; apply s_region; (iterate 3 (apply s_q; decide; rfl; (simp only [go_sem]; rfl))); apply s_nil; simp only [AThen, ABlock])
        refine ⟨i + 1, by omega, by omega, ?_, by trivial⟩
        simp only [getAll, List.map_cons, List.map_nil, AFr.get]
        rw [wrapS hlt (by omega)]; rfl
  · (apply AWp_exit; simp only [AThen, ABlock, reduceIte, Nat.reduceEqDiff]; clear hK K; refine hK _ _ ?_; clear hK K; refine AWp_seq_k (fun K hK => ?_); apply s_region; apply s_q; decide; rfl; (simp only [go_sem]; rfl); apply s_nil; simp only [AThen, ABlock]; refine hK _ _ ?_; clear hK K; apply AWp_ret)
    exact h true (fun _ => h30)
end Go.Proofs.Ytmloandpjbimkaa
