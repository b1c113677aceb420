/-
  Contracts of rows handed backward, and of spaces by name.
-/
import Derived.Test.YtloobmklfjhfpaaF
set_option linter.unusedSimpArgs false
set_option linter.unusedVariables false
set_option maxRecDepth 100000
namespace Go.Proofs.Ytloobmklfjhfpaa
open Go Go.AL
attribute [local irreducible] AOps AWp SOps AE AT ACall AApp

structure Space where
  id : List UInt8
  kids : List Child
def Space.cells (s : Space) : List AV := [.s s.id, .sl false (s.kids.map Child.cells)]
theorem space_at {l : List Space} {i : Nat} {c : Space} (h : l[i]? = some c) : (l.map Space.cells)[i]? = some [.s c.id, .sl false (c.kids.map Child.cells)] := by rw [List.getElem?_map, h]; rfl

theorem backS_c (t : Bool) (l : List Space) (H : AHeap) (K : AV → AHeap → Prop) (h : ∀ c, H.get c = none → K (.fn (.func 48) [] [ptrTo c]) (H.put c (.box 28 [.sl t (l.map Space.cells)]))) : ACall X 31 [.sl t (l.map Space.cells)] H K := by
  refine ACall_intro Try.func31 rfl (by kernel_rfl) (by rw [Try.ntmps31]; simp) ?_; rw [Try.ntmps31]; simp only [frame0, Nat.reduceAdd]
  (repeat' (first | (refine AWp_seq_k (fun K hK => ?_)) | (apply s_region) | (apply s_q; (first | decide | (dsimp only; decide)); rfl; (solve | (simp only [go_sem]; try rfl))) | (apply s_nil; try simp only [AThen, ABlock]; try (first | (refine hK _ _ ?_; clear hK K) | (clear hK K; refine hK _ _ ?_; clear hK K) | (clear hK K; clear hK K; refine hK _ _ ?_; clear hK K))) | (apply AWp_ret; try simp only [AThen, ABlock]; apply end_ret; rfl; try simp only [AFr.get, reduceIte, Nat.reduceEqDiff]) | (apply s_box; (first | decide | (dsimp only; decide)); (solve | (simp only [go_sem]; try rfl)); (solve | (simp only [go_sem]; try rfl)); intro b hb)))
  exact h _ (by assumption)
theorem backC_c (t : Bool) (l : List Child) (H : AHeap) (K : AV → AHeap → Prop) (h : ∀ c, H.get c = none → K (.fn (.func 32) [] [ptrTo c]) (H.put c (.box 22 [.sl t (l.map Child.cells)]))) : ACall X 20 [.sl t (l.map Child.cells)] H K := by
  refine ACall_intro Try.func20 rfl (by kernel_rfl) (by rw [Try.ntmps20]; simp) ?_; rw [Try.ntmps20]; simp only [frame0, Nat.reduceAdd]
  (repeat' (first | (refine AWp_seq_k (fun K hK => ?_)) | (apply s_region) | (apply s_q; (first | decide | (dsimp only; decide)); rfl; (solve | (simp only [go_sem]; try rfl))) | (apply s_nil; try simp only [AThen, ABlock]; try (first | (refine hK _ _ ?_; clear hK K) | (clear hK K; refine hK _ _ ?_; clear hK K) | (clear hK K; clear hK K; refine hK _ _ ?_; clear hK K))) | (apply AWp_ret; try simp only [AThen, ABlock]; apply end_ret; rfl; try simp only [AFr.get, reduceIte, Nat.reduceEqDiff]) | (apply s_box; (first | decide | (dsimp only; decide)); (solve | (simp only [go_sem]; try rfl)); (solve | (simp only [go_sem]; try rfl)); intro b hb)))
  exact h _ (by assumption)
theorem iterS_c (y c : Nat) (t : Bool) (l : List Space) (hl : l.length ≤ 1000000) (I : Nat → AHeap → Prop) (Kc : AV → AHeap → Prop)
    (hI : ∀ n H, I n H → H.get c = some (.box 28 [.sl t (l.map Space.cells)]))
    (hy : ∀ (n : Nat) (x : Space) (H : AHeap), l[n]? = some x → I (n + 1) H → AYield X y [.v (.int .i64 n), .agg x.cells] H (fun a H' => (a = .v (.bool true) ∧ I n H') ∨ (a = .v (.bool false) ∧ Kc (.tup []) H')))
    (h0 : ∀ H, I 0 H → Kc (.tup []) H) (H : AHeap) (hH : I l.length H) : ACall X 48 [.fn (.yield y) [] [], ptrTo c] H Kc := by
  have hg0 := hI _ _ hH
  refine ACall_intro Try.func48 rfl (by kernel_rfl) (by rw [Try.ntmps48]; simp) ?_; rw [Try.ntmps48]; simp only [frame0, Nat.reduceAdd]
  (repeat' (first | (refine AWp_seq_k (fun K hK => ?_)) | (apply s_region) | (apply s_q; (first | decide | (dsimp only; decide)); rfl; (solve | (simp only [go_sem, hg0]; try rfl))) | (apply s_nil; try simp only [AThen, ABlock]; try (first | (refine hK _ _ ?_; clear hK K) | (clear hK K; refine hK _ _ ?_; clear hK K) | (clear hK K; clear hK K; refine hK _ _ ?_; clear hK K))) | (apply AWp_block) | (apply AWp_skip; try simp only [AThen, ABlock]; try (first | (refine hK _ _ ?_; clear hK K) | (clear hK K; refine hK _ _ ?_; clear hK K) | (clear hK K; clear hK K; refine hK _ _ ?_; clear hK K))) | (apply AWp_exit; simp only [AThen, ABlock, reduceIte, Nat.reduceEqDiff]; try (first | (refine hK _ _ ?_; clear hK K) | (clear hK K; refine hK _ _ ?_; clear hK K) | (clear hK K; clear hK K; refine hK _ _ ?_; clear hK K))) | (apply AWp_ret; try simp only [AThen, ABlock]; apply end_ret; rfl; try simp only [AFr.get, reduceIte, Nat.reduceEqDiff])))
  refine AWp_loop_s (σ := Nat × AHeap) [0, 1, 3] (fun s => [.fn (.yield y) [] [], ptrTo c, .v (.int .i64 ((s.1 : Int) - 1))]) (fun s => s.2) (fun s => s.1) (fun s => s.1 ≤ l.length ∧ I s.1 s.2) (l.length, H) ⟨Nat.le_refl _, hH⟩ (by simp only [getAll, List.map_cons, List.map_nil, AFr.get, reduceIte, Nat.reduceEqDiff]; rw [wrap64 (by omega)]) rfl (fun s hs => ?_)
  obtain ⟨n, L⟩ := s
  obtain ⟨hn, hIL⟩ := hs
  simp only [List.zip_cons_cons, List.zip_nil_right] at hn hIL ⊢
  have hgL := hI _ _ hIL
  cases n with
  | zero =>
    (repeat' (first | (refine AWp_seq_k (fun K hK => ?_)) | (apply s_region) | (apply s_q; (first | decide | (dsimp only; decide)); rfl; (solve | (simp only [go_sem]; try rfl))) | (apply s_nil; try simp only [AThen, ABlock]; try (first | (refine hK _ _ ?_; clear hK K) | (clear hK K; refine hK _ _ ?_; clear hK K) | (clear hK K; clear hK K; refine hK _ _ ?_; clear hK K))) | (apply AWp_block) | (apply AWp_skip; try simp only [AThen, ABlock]; try (first | (refine hK _ _ ?_; clear hK K) | (clear hK K; refine hK _ _ ?_; clear hK K) | (clear hK K; clear hK K; refine hK _ _ ?_; clear hK K))) | (apply AWp_exit; simp only [AThen, ABlock, reduceIte, Nat.reduceEqDiff]; try (first | (refine hK _ _ ?_; clear hK K) | (clear hK K; refine hK _ _ ?_; clear hK K) | (clear hK K; clear hK K; refine hK _ _ ?_; clear hK K))) | (apply AWp_ret; try simp only [AThen, ABlock]; apply end_ret; rfl; try simp only [AFr.get, reduceIte, Nat.reduceEqDiff])))
    refine cond_split (by simp only [go_sem]; try rfl) (fun hz => ?_) (fun hz => ?_)
    · simp at hz
    (repeat' (first | (refine AWp_seq_k (fun K hK => ?_)) | (apply s_region) | (apply s_q; (first | decide | (dsimp only; decide)); rfl; (solve | (simp only [go_sem]; try rfl))) | (apply s_nil; try simp only [AThen, ABlock]; try (first | (refine hK _ _ ?_; clear hK K) | (clear hK K; refine hK _ _ ?_; clear hK K) | (clear hK K; clear hK K; refine hK _ _ ?_; clear hK K))) | (apply AWp_block) | (apply AWp_skip; try simp only [AThen, ABlock]; try (first | (refine hK _ _ ?_; clear hK K) | (clear hK K; refine hK _ _ ?_; clear hK K) | (clear hK K; clear hK K; refine hK _ _ ?_; clear hK K))) | (apply AWp_exit; simp only [AThen, ABlock, reduceIte, Nat.reduceEqDiff]; try (first | (refine hK _ _ ?_; clear hK K) | (clear hK K; refine hK _ _ ?_; clear hK K) | (clear hK K; clear hK K; refine hK _ _ ?_; clear hK K))) | (apply AWp_ret; try simp only [AThen, ABlock]; apply end_ret; rfl; try simp only [AFr.get, reduceIte, Nat.reduceEqDiff])))
    apply end_normal; rfl
    exact h0 _ hIL
  | succ m =>
    have em : (((m + 1 : Nat) : Int) - 1) = (m : Int) := by omega
    rw [em]
    obtain ⟨x, hx⟩ := gete (l := l) (i := m) (by omega)
    have hgx := space_at hx
    (repeat' (first | (refine AWp_seq_k (fun K hK => ?_)) | (apply s_region) | (apply s_q; (first | decide | (dsimp only; decide)); rfl; (solve | (simp only [go_sem]; try rfl))) | (apply s_nil; try simp only [AThen, ABlock]; try (first | (refine hK _ _ ?_; clear hK K) | (clear hK K; refine hK _ _ ?_; clear hK K) | (clear hK K; clear hK K; refine hK _ _ ?_; clear hK K))) | (apply AWp_block) | (apply AWp_skip; try simp only [AThen, ABlock]; try (first | (refine hK _ _ ?_; clear hK K) | (clear hK K; refine hK _ _ ?_; clear hK K) | (clear hK K; clear hK K; refine hK _ _ ?_; clear hK K))) | (apply AWp_exit; simp only [AThen, ABlock, reduceIte, Nat.reduceEqDiff]; try (first | (refine hK _ _ ?_; clear hK K) | (clear hK K; refine hK _ _ ?_; clear hK K) | (clear hK K; clear hK K; refine hK _ _ ?_; clear hK K))) | (apply AWp_ret; try simp only [AThen, ABlock]; apply end_ret; rfl; try simp only [AFr.get, reduceIte, Nat.reduceEqDiff])))
    refine cond_split (by simp only [go_sem]; try rfl) (fun hz => ?_) (fun hz => ?_)
    rotate_left
    · simp at hz
    (repeat' (first | (refine AWp_seq_k (fun K hK => ?_)) | (apply s_region) | (apply s_q; (first | decide | (dsimp only; decide)); rfl; (solve | (simp only [go_sem, hgL, hgx]; try rfl))) | (apply s_nil; try simp only [AThen, ABlock]; try (first | (refine hK _ _ ?_; clear hK K) | (clear hK K; refine hK _ _ ?_; clear hK K) | (clear hK K; clear hK K; refine hK _ _ ?_; clear hK K))) | (apply AWp_block) | (apply AWp_skip; try simp only [AThen, ABlock]; try (first | (refine hK _ _ ?_; clear hK K) | (clear hK K; refine hK _ _ ?_; clear hK K) | (clear hK K; clear hK K; refine hK _ _ ?_; clear hK K))) | (apply AWp_exit; simp only [AThen, ABlock, reduceIte, Nat.reduceEqDiff]; try (first | (refine hK _ _ ?_; clear hK K) | (clear hK K; refine hK _ _ ?_; clear hK K) | (clear hK K; clear hK K; refine hK _ _ ?_; clear hK K))) | (apply AWp_ret; try simp only [AThen, ABlock]; apply end_ret; rfl; try simp only [AFr.get, reduceIte, Nat.reduceEqDiff])))
    apply s_yield; decide; exact (by simp only [go_sem]; try rfl); exact (by simp only [go_sem]; try rfl)
    refine AYield.mono (hy m x _ hx hIL) ?_
    rintro a L' (⟨rfl, hI'⟩ | ⟨rfl, hK'⟩)
    · (repeat' (first | (refine AWp_seq_k (fun K hK => ?_)) | (apply s_region) | (apply s_q; (first | decide | (dsimp only; decide)); rfl; (solve | (simp only [go_sem]; try rfl))) | (apply s_nil; try simp only [AThen, ABlock]; try (first | (refine hK _ _ ?_; clear hK K) | (clear hK K; refine hK _ _ ?_; clear hK K) | (clear hK K; clear hK K; refine hK _ _ ?_; clear hK K))) | (apply AWp_block) | (apply AWp_skip; try simp only [AThen, ABlock]; try (first | (refine hK _ _ ?_; clear hK K) | (clear hK K; refine hK _ _ ?_; clear hK K) | (clear hK K; clear hK K; refine hK _ _ ?_; clear hK K))) | (apply AWp_exit; simp only [AThen, ABlock, reduceIte, Nat.reduceEqDiff]; try (first | (refine hK _ _ ?_; clear hK K) | (clear hK K; refine hK _ _ ?_; clear hK K) | (clear hK K; clear hK K; refine hK _ _ ?_; clear hK K))) | (apply AWp_ret; try simp only [AThen, ABlock]; apply end_ret; rfl; try simp only [AFr.get, reduceIte, Nat.reduceEqDiff])))
      refine cond_split (by simp only [go_sem]; try rfl) (fun hz => ?_) (fun hz => ?_)
      · cases hz
      (repeat' (first | (refine AWp_seq_k (fun K hK => ?_)) | (apply s_region) | (apply s_q; (first | decide | (dsimp only; decide)); rfl; (solve | (simp only [go_sem]; try rfl))) | (apply s_nil; try simp only [AThen, ABlock]; try (first | (refine hK _ _ ?_; clear hK K) | (clear hK K; refine hK _ _ ?_; clear hK K) | (clear hK K; clear hK K; refine hK _ _ ?_; clear hK K))) | (apply AWp_block) | (apply AWp_skip; try simp only [AThen, ABlock]; try (first | (refine hK _ _ ?_; clear hK K) | (clear hK K; refine hK _ _ ?_; clear hK K) | (clear hK K; clear hK K; refine hK _ _ ?_; clear hK K))) | (apply AWp_exit; simp only [AThen, ABlock, reduceIte, Nat.reduceEqDiff]; try (first | (refine hK _ _ ?_; clear hK K) | (clear hK K; refine hK _ _ ?_; clear hK K) | (clear hK K; clear hK K; refine hK _ _ ?_; clear hK K))) | (apply AWp_ret; try simp only [AThen, ABlock]; apply end_ret; rfl; try simp only [AFr.get, reduceIte, Nat.reduceEqDiff])))
      refine ⟨(m, L'), by simp only; omega, ⟨by simp only; omega, hI'⟩, ?_, rfl⟩
      simp only [getAll, List.map_cons, List.map_nil, AFr.get, reduceIte, Nat.reduceEqDiff]
      rw [wrap64 (by omega)]; try rfl
    · (repeat' (first | (refine AWp_seq_k (fun K hK => ?_)) | (apply s_region) | (apply s_q; (first | decide | (dsimp only; decide)); rfl; (solve | (simp only [go_sem]; try rfl))) | (apply s_nil; try simp only [AThen, ABlock]; try (first | (refine hK _ _ ?_; clear hK K) | (clear hK K; refine hK _ _ ?_; clear hK K) | (clear hK K; clear hK K; refine hK _ _ ?_; clear hK K))) | (apply AWp_block) | (apply AWp_skip; try simp only [AThen, ABlock]; try (first | (refine hK _ _ ?_; clear hK K) | (clear hK K; refine hK _ _ ?_; clear hK K) | (clear hK K; clear hK K; refine hK _ _ ?_; clear hK K))) | (apply AWp_exit; simp only [AThen, ABlock, reduceIte, Nat.reduceEqDiff]; try (first | (refine hK _ _ ?_; clear hK K) | (clear hK K; refine hK _ _ ?_; clear hK K) | (clear hK K; clear hK K; refine hK _ _ ?_; clear hK K))) | (apply AWp_ret; try simp only [AThen, ABlock]; apply end_ret; rfl; try simp only [AFr.get, reduceIte, Nat.reduceEqDiff])))
      refine cond_split (by simp only [go_sem]; try rfl) (fun hz => ?_) (fun hz => ?_)
      rotate_left
      · cases hz
      (repeat' (first | (refine AWp_seq_k (fun K hK => ?_)) | (apply s_region) | (apply s_q; (first | decide | (dsimp only; decide)); rfl; (solve | (simp only [go_sem]; try rfl))) | (apply s_nil; try simp only [AThen, ABlock]; try (first | (refine hK _ _ ?_; clear hK K) | (clear hK K; refine hK _ _ ?_; clear hK K) | (clear hK K; clear hK K; refine hK _ _ ?_; clear hK K))) | (apply AWp_block) | (apply AWp_skip; try simp only [AThen, ABlock]; try (first | (refine hK _ _ ?_; clear hK K) | (clear hK K; refine hK _ _ ?_; clear hK K) | (clear hK K; clear hK K; refine hK _ _ ?_; clear hK K))) | (apply AWp_exit; simp only [AThen, ABlock, reduceIte, Nat.reduceEqDiff]; try (first | (refine hK _ _ ?_; clear hK K) | (clear hK K; refine hK _ _ ?_; clear hK K) | (clear hK K; clear hK K; refine hK _ _ ?_; clear hK K))) | (apply AWp_ret; try simp only [AThen, ABlock]; apply end_ret; rfl; try simp only [AFr.get, reduceIte, Nat.reduceEqDiff])))
      exact hK'
theorem iterC_c (y c : Nat) (t : Bool) (l : List Child) (hl : l.length ≤ 1000000) (I : Nat → AHeap → Prop) (Kc : AV → AHeap → Prop)
    (hI : ∀ n H, I n H → H.get c = some (.box 22 [.sl t (l.map Child.cells)]))
    (hy : ∀ (n : Nat) (x : Child) (H : AHeap), l[n]? = some x → I (n + 1) H → AYield X y [.v (.int .i64 n), .agg x.cells] H (fun a H' => (a = .v (.bool true) ∧ I n H') ∨ (a = .v (.bool false) ∧ Kc (.tup []) H')))
    (h0 : ∀ H, I 0 H → Kc (.tup []) H) (H : AHeap) (hH : I l.length H) : ACall X 32 [.fn (.yield y) [] [], ptrTo c] H Kc := by
  have hg0 := hI _ _ hH
  refine ACall_intro Try.func32 rfl (by kernel_rfl) (by rw [Try.ntmps32]; simp) ?_; rw [Try.ntmps32]; simp only [frame0, Nat.reduceAdd]
  (repeat' (first | (refine AWp_seq_k (fun K hK => ?_)) | (apply s_region) | (apply s_q; (first | decide | (dsimp only; decide)); rfl; (solve | (simp only [go_sem, hg0]; try rfl))) | (apply s_nil; try simp only [AThen, ABlock]; try (first | (refine hK _ _ ?_; clear hK K) | (clear hK K; refine hK _ _ ?_; clear hK K) | (clear hK K; clear hK K; refine hK _ _ ?_; clear hK K))) | (apply AWp_block) | (apply AWp_skip; try simp only [AThen, ABlock]; try (first | (refine hK _ _ ?_; clear hK K) | (clear hK K; refine hK _ _ ?_; clear hK K) | (clear hK K; clear hK K; refine hK _ _ ?_; clear hK K))) | (apply AWp_exit; simp only [AThen, ABlock, reduceIte, Nat.reduceEqDiff]; try (first | (refine hK _ _ ?_; clear hK K) | (clear hK K; refine hK _ _ ?_; clear hK K) | (clear hK K; clear hK K; refine hK _ _ ?_; clear hK K))) | (apply AWp_ret; try simp only [AThen, ABlock]; apply end_ret; rfl; try simp only [AFr.get, reduceIte, Nat.reduceEqDiff])))
  refine AWp_loop_s (σ := Nat × AHeap) [0, 1, 3] (fun s => [.fn (.yield y) [] [], ptrTo c, .v (.int .i64 ((s.1 : Int) - 1))]) (fun s => s.2) (fun s => s.1) (fun s => s.1 ≤ l.length ∧ I s.1 s.2) (l.length, H) ⟨Nat.le_refl _, hH⟩ (by simp only [getAll, List.map_cons, List.map_nil, AFr.get, reduceIte, Nat.reduceEqDiff]; rw [wrap64 (by omega)]) rfl (fun s hs => ?_)
  obtain ⟨n, L⟩ := s
  obtain ⟨hn, hIL⟩ := hs
  simp only [List.zip_cons_cons, List.zip_nil_right] at hn hIL ⊢
  have hgL := hI _ _ hIL
  cases n with
  | zero =>
    (repeat' (first | (refine AWp_seq_k (fun K hK => ?_)) | (apply s_region) | (apply s_q; (first | decide | (dsimp only; decide)); rfl; (solve | (simp only [go_sem]; try rfl))) | (apply s_nil; try simp only [AThen, ABlock]; try (first | (refine hK _ _ ?_; clear hK K) | (clear hK K; refine hK _ _ ?_; clear hK K) | (clear hK K; clear hK K; refine hK _ _ ?_; clear hK K))) | (apply AWp_block) | (apply AWp_skip; try simp only [AThen, ABlock]; try (first | (refine hK _ _ ?_; clear hK K) | (clear hK K; refine hK _ _ ?_; clear hK K) | (clear hK K; clear hK K; refine hK _ _ ?_; clear hK K))) | (apply AWp_exit; simp only [AThen, ABlock, reduceIte, Nat.reduceEqDiff]; try (first | (refine hK _ _ ?_; clear hK K) | (clear hK K; refine hK _ _ ?_; clear hK K) | (clear hK K; clear hK K; refine hK _ _ ?_; clear hK K))) | (apply AWp_ret; try simp only [AThen, ABlock]; apply end_ret; rfl; try simp only [AFr.get, reduceIte, Nat.reduceEqDiff])))
    refine cond_split (by simp only [go_sem]; try rfl) (fun hz => ?_) (fun hz => ?_)
    · simp at hz
    (repeat' (first | (refine AWp_seq_k (fun K hK => ?_)) | (apply s_region) | (apply s_q; (first | decide | (dsimp only; decide)); rfl; (solve | (simp only [go_sem]; try rfl))) | (apply s_nil; try simp only [AThen, ABlock]; try (first | (refine hK _ _ ?_; clear hK K) | (clear hK K; refine hK _ _ ?_; clear hK K) | (clear hK K; clear hK K; refine hK _ _ ?_; clear hK K))) | (apply AWp_block) | (apply AWp_skip; try simp only [AThen, ABlock]; try (first | (refine hK _ _ ?_; clear hK K) | (clear hK K; refine hK _ _ ?_; clear hK K) | (clear hK K; clear hK K; refine hK _ _ ?_; clear hK K))) | (apply AWp_exit; simp only [AThen, ABlock, reduceIte, Nat.reduceEqDiff]; try (first | (refine hK _ _ ?_; clear hK K) | (clear hK K; refine hK _ _ ?_; clear hK K) | (clear hK K; clear hK K; refine hK _ _ ?_; clear hK K))) | (apply AWp_ret; try simp only [AThen, ABlock]; apply end_ret; rfl; try simp only [AFr.get, reduceIte, Nat.reduceEqDiff])))
    apply end_normal; rfl
    exact h0 _ hIL
  | succ m =>
    have em : (((m + 1 : Nat) : Int) - 1) = (m : Int) := by omega
    rw [em]
    obtain ⟨x, hx⟩ := gete (l := l) (i := m) (by omega)
    have hgx := child_at hx
    (repeat' (first | (refine AWp_seq_k (fun K hK => ?_)) | (apply s_region) | (apply s_q; (first | decide | (dsimp only; decide)); rfl; (solve | (simp only [go_sem]; try rfl))) | (apply s_nil; try simp only [AThen, ABlock]; try (first | (refine hK _ _ ?_; clear hK K) | (clear hK K; refine hK _ _ ?_; clear hK K) | (clear hK K; clear hK K; refine hK _ _ ?_; clear hK K))) | (apply AWp_block) | (apply AWp_skip; try simp only [AThen, ABlock]; try (first | (refine hK _ _ ?_; clear hK K) | (clear hK K; refine hK _ _ ?_; clear hK K) | (clear hK K; clear hK K; refine hK _ _ ?_; clear hK K))) | (apply AWp_exit; simp only [AThen, ABlock, reduceIte, Nat.reduceEqDiff]; try (first | (refine hK _ _ ?_; clear hK K) | (clear hK K; refine hK _ _ ?_; clear hK K) | (clear hK K; clear hK K; refine hK _ _ ?_; clear hK K))) | (apply AWp_ret; try simp only [AThen, ABlock]; apply end_ret; rfl; try simp only [AFr.get, reduceIte, Nat.reduceEqDiff])))
    refine cond_split (by simp only [go_sem]; try rfl) (fun hz => ?_) (fun hz => ?_)
    rotate_left
    · simp at hz
    (repeat' (first | (refine AWp_seq_k (fun K hK => ?_)) | (apply s_region) | (apply s_q; (first | decide | (dsimp only; decide)); rfl; (solve | (simp only [go_sem, hgL, hgx]; try rfl))) | (apply s_nil; try simp only [AThen, ABlock]; try (first | (refine hK _ _ ?_; clear hK K) | (clear hK K; refine hK _ _ ?_; clear hK K) | (clear hK K; clear hK K; refine hK _ _ ?_; clear hK K))) | (apply AWp_block) | (apply AWp_skip; try simp only [AThen, ABlock]; try (first | (refine hK _ _ ?_; clear hK K) | (clear hK K; refine hK _ _ ?_; clear hK K) | (clear hK K; clear hK K; refine hK _ _ ?_; clear hK K))) | (apply AWp_exit; simp only [AThen, ABlock, reduceIte, Nat.reduceEqDiff]; try (first | (refine hK _ _ ?_; clear hK K) | (clear hK K; refine hK _ _ ?_; clear hK K) | (clear hK K; clear hK K; refine hK _ _ ?_; clear hK K))) | (apply AWp_ret; try simp only [AThen, ABlock]; apply end_ret; rfl; try simp only [AFr.get, reduceIte, Nat.reduceEqDiff])))
    apply s_yield; decide; exact (by simp only [go_sem]; try rfl); exact (by simp only [go_sem]; try rfl)
    refine AYield.mono (hy m x _ hx hIL) ?_
    rintro a L' (⟨rfl, hI'⟩ | ⟨rfl, hK'⟩)
    · (repeat' (first | (refine AWp_seq_k (fun K hK => ?_)) | (apply s_region) | (apply s_q; (first | decide | (dsimp only; decide)); rfl; (solve | (simp only [go_sem]; try rfl))) | (apply s_nil; try simp only [AThen, ABlock]; try (first | (refine hK _ _ ?_; clear hK K) | (clear hK K; refine hK _ _ ?_; clear hK K) | (clear hK K; clear hK K; refine hK _ _ ?_; clear hK K))) | (apply AWp_block) | (apply AWp_skip; try simp only [AThen, ABlock]; try (first | (refine hK _ _ ?_; clear hK K) | (clear hK K; refine hK _ _ ?_; clear hK K) | (clear hK K; clear hK K; refine hK _ _ ?_; clear hK K))) | (apply AWp_exit; simp only [AThen, ABlock, reduceIte, Nat.reduceEqDiff]; try (first | (refine hK _ _ ?_; clear hK K) | (clear hK K; refine hK _ _ ?_; clear hK K) | (clear hK K; clear hK K; refine hK _ _ ?_; clear hK K))) | (apply AWp_ret; try simp only [AThen, ABlock]; apply end_ret; rfl; try simp only [AFr.get, reduceIte, Nat.reduceEqDiff])))
      refine cond_split (by simp only [go_sem]; try rfl) (fun hz => ?_) (fun hz => ?_)
      · cases hz
      (repeat' (first | (refine AWp_seq_k (fun K hK => ?_)) | (apply s_region) | (apply s_q; (first | decide | (dsimp only; decide)); rfl; (solve | (simp only [go_sem]; try rfl))) | (apply s_nil; try simp only [AThen, ABlock]; try (first | (refine hK _ _ ?_; clear hK K) | (clear hK K; refine hK _ _ ?_; clear hK K) | (clear hK K; clear hK K; refine hK _ _ ?_; clear hK K))) | (apply AWp_block) | (apply AWp_skip; try simp only [AThen, ABlock]; try (first | (refine hK _ _ ?_; clear hK K) | (clear hK K; refine hK _ _ ?_; clear hK K) | (clear hK K; clear hK K; refine hK _ _ ?_; clear hK K))) | (apply AWp_exit; simp only [AThen, ABlock, reduceIte, Nat.reduceEqDiff]; try (first | (refine hK _ _ ?_; clear hK K) | (clear hK K; refine hK _ _ ?_; clear hK K) | (clear hK K; clear hK K; refine hK _ _ ?_; clear hK K))) | (apply AWp_ret; try simp only [AThen, ABlock]; apply end_ret; rfl; try simp only [AFr.get, reduceIte, Nat.reduceEqDiff])))
      refine ⟨(m, L'), by simp only; omega, ⟨by simp only; omega, hI'⟩, ?_, rfl⟩
      simp only [getAll, List.map_cons, List.map_nil, AFr.get, reduceIte, Nat.reduceEqDiff]
      rw [wrap64 (by omega)]; try rfl
    · (repeat' (first | (refine AWp_seq_k (fun K hK => ?_)) | (apply s_region) | (apply s_q; (first | decide | (dsimp only; decide)); rfl; (solve | (simp only [go_sem]; try rfl))) | (apply s_nil; try simp only [AThen, ABlock]; try (first | (refine hK _ _ ?_; clear hK K) | (clear hK K; refine hK _ _ ?_; clear hK K) | (clear hK K; clear hK K; refine hK _ _ ?_; clear hK K))) | (apply AWp_block) | (apply AWp_skip; try simp only [AThen, ABlock]; try (first | (refine hK _ _ ?_; clear hK K) | (clear hK K; refine hK _ _ ?_; clear hK K) | (clear hK K; clear hK K; refine hK _ _ ?_; clear hK K))) | (apply AWp_exit; simp only [AThen, ABlock, reduceIte, Nat.reduceEqDiff]; try (first | (refine hK _ _ ?_; clear hK K) | (clear hK K; refine hK _ _ ?_; clear hK K) | (clear hK K; clear hK K; refine hK _ _ ?_; clear hK K))) | (apply AWp_ret; try simp only [AThen, ABlock]; apply end_ret; rfl; try simp only [AFr.get, reduceIte, Nat.reduceEqDiff])))
      refine cond_split (by simp only [go_sem]; try rfl) (fun hz => ?_) (fun hz => ?_)
      rotate_left
      · cases hz
      (repeat' (first | (refine AWp_seq_k (fun K hK => ?_)) | (apply s_region) | (apply s_q; (first | decide | (dsimp only; decide)); rfl; (solve | (simp only [go_sem]; try rfl))) | (apply s_nil; try simp only [AThen, ABlock]; try (first | (refine hK _ _ ?_; clear hK K) | (clear hK K; refine hK _ _ ?_; clear hK K) | (clear hK K; clear hK K; refine hK _ _ ?_; clear hK K))) | (apply AWp_block) | (apply AWp_skip; try simp only [AThen, ABlock]; try (first | (refine hK _ _ ?_; clear hK K) | (clear hK K; refine hK _ _ ?_; clear hK K) | (clear hK K; clear hK K; refine hK _ _ ?_; clear hK K))) | (apply AWp_exit; simp only [AThen, ABlock, reduceIte, Nat.reduceEqDiff]; try (first | (refine hK _ _ ?_; clear hK K) | (clear hK K; refine hK _ _ ?_; clear hK K) | (clear hK K; clear hK K; refine hK _ _ ?_; clear hK K))) | (apply AWp_ret; try simp only [AThen, ABlock]; apply end_ret; rfl; try simp only [AFr.get, reduceIte, Nat.reduceEqDiff])))
      exact hK'

/-- spaces by name: the first one of each -/
def idxE : List Space → List (List UInt8 × AV)
  | [] => []
  | s :: l => kput s.id (.sl false (s.kids.map Child.cells)) (idxE l)
theorem idx_find (k : List UInt8) : ∀ l : List Space, kfind k (idxE l) = (l.find? fun s => decide (s.id = k)).map fun s => .sl false (s.kids.map Child.cells)
  | [] => rfl
  | s :: l => by
    rw [idxE, kfind_kput, idx_find k l, List.find?_cons]
    by_cases h : s.id = k
    · simp [h]
    · simp [h]
theorem idx_drop {l : List Space} {n : Nat} {x : Space} (h : l[n]? = some x) : idxE (l.drop n) = kput x.id (.sl false (x.kids.map Child.cells)) (idxE (l.drop (n + 1))) := by
  obtain ⟨hn, rfl⟩ := List.getElem?_eq_some_iff.1 h
  rw [List.drop_eq_getElem_cons hn]; rfl

theorem index_c (t : Bool) (l : List Space) (hl : l.length ≤ 1000000) (H : AHeap) (Kc : AV → AHeap → Prop) (h : ∀ m, H.get m = none → Kc (.v (.map (some m))) (H.put m (.smap (idxE l)))) : ACall X 19 [.sl t (l.map Space.cells)] H Kc := by
  refine ACall.drop ?_
  refine ACall_intro Try.func19 rfl (by kernel_rfl) (by rw [Try.ntmps19]; simp) ?_; rw [Try.ntmps19]; simp only [frame0, Nat.reduceAdd]
  (repeat' (first | (refine AWp_seq_k (fun K hK => ?_)) | (apply s_region) | (apply s_q; (first | decide | (dsimp only; decide)); rfl; (solve | (simp only [go_sem]; try rfl))) | (apply s_nil; try simp only [AThen, ABlock]; try (first | (refine hK _ _ ?_; clear hK K) | (clear hK K; refine hK _ _ ?_; clear hK K) | (clear hK K; clear hK K; refine hK _ _ ?_; clear hK K))) | (apply AWp_block) | (apply AWp_ret; try simp only [AThen, ABlock]; apply end_ret; rfl; try simp only [AFr.get, reduceIte, Nat.reduceEqDiff]) | (apply s_store; (solve | (simp only [go_sem]; try rfl)); (solve | (simp only [go_sem]; try rfl)); (solve | (simp only [go_sem]; try rfl))) | (apply s_mapput; (solve | (simp only [go_sem]; try rfl)); (solve | (simp only [go_sem]; try rfl)); (solve | (simp only [go_sem]; try rfl)); (solve | (simp only [go_sem]; try rfl))) | (apply s_alloc; (first | decide | (dsimp only; decide)); (first | exact zc_48 | exact zc_50); intro b hb) | (apply s_smap; (first | decide | (dsimp only; decide)); exact mp_50; intro b hb) | (apply s_call; (first | decide | (dsimp only; decide)); (solve | (simp only [go_sem]; try rfl)); (solve | (simp only [go_sem]; try rfl)); apply backS_c t l; intro cb hcb)))
  rename_i m hm
  obtain ⟨q, hqb⟩ : ∃ q, q = b := ⟨_, rfl⟩
  have hq := hb
  rw [← hqb] at hq hcb ⊢
  clear hb hqb b
  have hmq : m ≠ q := by rintro rfl; rw [AHeap.get_put_same] at hq; cases hq
  refine AWp_cut [3, 8] (vs := [ptrTo q, .fn (.func 48) [] [ptrTo cb]]) rfl ?_
  simp only [List.zip_cons_cons, List.zip_nil_right]
  apply AWp_rangeFunc; exact (by simp only [go_sem]; try rfl); intro y hy
  generalize hlo : AObj.loop 17 _ _ _ _ LoopState.ready none = lo
  have fm0 := AHeap.get_put_same m (.smap []) H
  have fm1 := get_fresh fm0 hq (x := .box 50 [.v (.map (some m))])
  have fq1 := AHeap.get_put_same q (.box 50 [.v (.map (some m))]) (H.put m (.smap []))
  have fm2 := get_fresh fm1 hcb (x := .box 28 [.sl t (l.map Space.cells)])
  have fq2 := get_fresh fq1 hcb (x := .box 28 [.sl t (l.map Space.cells)])
  have fc2 := AHeap.get_put_same cb (.box 28 [.sl t (l.map Space.cells)]) ((H.put m (.smap [])).put q (.box 50 [.v (.map (some m))]))
  have hE2 := (((Ext.fresh hm (o := .smap [])).put hq (ob := .box 50 [.v (.map (some m))])).put hcb (ob := .box 28 [.sl t (l.map Space.cells)]))
  generalize ((H.put m (.smap [])).put q (.box 50 [.v (.map (some m))])).put cb (.box 28 [.sl t (l.map Space.cells)]) = G at fm2 fq2 fc2 hE2 hy ⊢
  have hmy := get_ne_fresh fm2 hy
  have hqy := get_ne_fresh fq2 hy
  have hcy := get_ne_fresh fc2 hy
  have hHy : H.get y = none := none_of_ext hE2 hy
  have hcm : cb ≠ m := by rintro rfl; rw [fc2] at fm2; cases fm2
  refine iterS_c y cb t l hl (fun n L => L.get y = some lo ∧ L.get cb = some (.box 28 [.sl t (l.map Space.cells)]) ∧ L.get q = some (.box 50 [.v (.map (some m))]) ∧ L.get m = some (.smap (idxE (l.drop n))) ∧ Ext H L) _ (fun n L h => h.2.1) ?_ ?_ _ ?_
  · rintro n x L hx ⟨g1, g2, g3, g4, hE⟩
    rw [← hlo] at g1
    apply AYield_intro g1 rfl; decide
    rw [show x.cells = [.s x.id, .sl false (x.kids.map Child.cells)] from rfl]
    simp only [putAll, List.toList_toArray]
    (repeat' (first | (refine AWp_seq_k (fun K hK => ?_)) | (apply s_region) | (apply s_q; (first | decide | (dsimp only; decide)); rfl; (solve | (simp only [go_sem]; try rfl))) | (apply s_nil; try simp only [AThen, ABlock]; try (first | (refine hK _ _ ?_; clear hK K) | (clear hK K; refine hK _ _ ?_; clear hK K) | (clear hK K; clear hK K; refine hK _ _ ?_; clear hK K))) | (apply AWp_block) | (apply AWp_ret; try simp only [AThen, ABlock]; apply end_ret; rfl; try simp only [AFr.get, reduceIte, Nat.reduceEqDiff]) | (apply s_store; (solve | (simp only [go_sem]; try rfl)); (solve | (simp only [go_sem]; try rfl)); (solve | (simp only [go_sem]; try rfl))) | (apply s_mapput; (solve | (simp only [go_sem]; try rfl)); (solve | (simp only [go_sem]; try rfl)); (solve | (simp only [go_sem]; try rfl)); (solve | (simp only [go_sem]; try rfl))) | (apply s_alloc; (first | decide | (dsimp only; decide)); (first | exact zc_48 | exact zc_50); intro b hb) | (apply s_smap; (first | decide | (dsimp only; decide)); exact mp_50; intro b hb)))
    obtain ⟨p, hpb⟩ : ∃ p, p = b := ⟨_, rfl⟩
    have hp := hb
    rw [← hpb] at hp ⊢
    clear hb hpb b
    have k1 := get_fresh g1 hp (x := .box 48 [.s x.id, .sl false (x.kids.map Child.cells)])
    have k2 := get_fresh g2 hp (x := .box 48 [.s x.id, .sl false (x.kids.map Child.cells)])
    have k3 := get_fresh g3 hp (x := .box 48 [.s x.id, .sl false (x.kids.map Child.cells)])
    have k4 := get_fresh g4 hp (x := .box 48 [.s x.id, .sl false (x.kids.map Child.cells)])
    have k5 := AHeap.get_put_same p (.box 48 [.s x.id, .sl false (x.kids.map Child.cells)]) L
    have hpy := (get_ne_fresh g1 hp).symm
    have hE3 := hE.put hp (ob := .box 48 [.s x.id, .sl false (x.kids.map Child.cells)])
    generalize L.put p (.box 48 [.s x.id, .sl false (x.kids.map Child.cells)]) = M at k1 k2 k3 k4 k5 hE3 ⊢
    refine ⟨k1, ?_⟩
    generalize hlb : AObj.loop 17 _ _ _ _ LoopState.busy none = lb
    have j3 : (M.put y lb).get q = some (.box 50 [.v (.map (some m))]) := by rw [AHeap.get_put, if_neg hqy]; exact k3
    have j4 : (M.put y lb).get m = some (.smap (idxE (l.drop (n + 1)))) := by rw [AHeap.get_put, if_neg hmy]; exact k4
    have j5 : (M.put y lb).get p = some (.box 48 [.s x.id, .sl false (x.kids.map Child.cells)]) := by rw [AHeap.get_put, if_neg hpy]; exact k5
    (repeat' (first | (refine AWp_seq_k (fun K hK => ?_)) | (apply s_region) | (apply s_q; (first | decide | (dsimp only; decide)); rfl; (solve | (simp only [go_sem, j3, j4, j5]; try rfl))) | (apply s_nil; try simp only [AThen, ABlock]; try (first | (refine hK _ _ ?_; clear hK K) | (clear hK K; refine hK _ _ ?_; clear hK K) | (clear hK K; clear hK K; refine hK _ _ ?_; clear hK K))) | (apply AWp_block) | (apply AWp_ret; try simp only [AThen, ABlock]; apply end_ret; rfl; try simp only [AFr.get, reduceIte, Nat.reduceEqDiff]) | (apply s_store; (solve | (simp only [go_sem, j3, j4, j5]; try rfl)); (solve | (simp only [go_sem, j3, j4, j5]; try rfl)); (solve | (simp only [go_sem, j3, j4, j5]; try rfl))) | (apply s_mapput; (solve | (simp only [go_sem, j3, j4, j5]; try rfl)); (solve | (simp only [go_sem, j3, j4, j5]; try rfl)); (solve | (simp only [go_sem, j3, j4, j5]; try rfl)); (solve | (simp only [go_sem, j3, j4, j5]; try rfl))) | (apply s_alloc; (first | decide | (dsimp only; decide)); (first | exact zc_48 | exact zc_50); intro b hb) | (apply s_smap; (first | decide | (dsimp only; decide)); exact mp_50; intro b hb)))
    simp only [ABlock, ARound]
    refine ⟨?_, .inl ⟨by trivial, ?_, ?_, ?_, ?_, ?_⟩⟩
    · rw [AHeap.get_put, if_neg (Ne.symm hmy), AHeap.get_put_same, hlb]
    · rw [AHeap.get_put_same, hlo]
    · rw [AHeap.get_put, if_neg hcy, AHeap.get_put, if_neg hcm, AHeap.get_put, if_neg hcy]; exact k2
    · rw [AHeap.get_put, if_neg hqy, AHeap.get_put, if_neg (Ne.symm hmq), AHeap.get_put, if_neg hqy]; exact k3
    · rw [AHeap.get_put, if_neg hmy, AHeap.get_put_same, idx_drop hx]
    · exact ((hE3.over hHy).over hm).over hHy
  · rintro L ⟨g1, g2, g3, g4, hE⟩
    refine ⟨_, .ready, none, by rw [g1, ← hlo], by simp, ?_⟩
    simp only [ABlock, AThen]
    (first | (refine hK _ _ ?_; clear hK K) | (clear hK K; refine hK _ _ ?_; clear hK K) | (clear hK K; clear hK K; refine hK _ _ ?_; clear hK K))
    have k3 : (L.del y).get q = some (.box 50 [.v (.map (some m))]) := by rw [AHeap.get_del, if_neg hqy]; exact g3
    (repeat' (first | (refine AWp_seq_k (fun K hK => ?_)) | (apply s_region) | (apply s_q; (first | decide | (dsimp only; decide)); rfl; (solve | (simp only [go_sem, k3]; try rfl))) | (apply s_nil; try simp only [AThen, ABlock]; try (first | (refine hK _ _ ?_; clear hK K) | (clear hK K; refine hK _ _ ?_; clear hK K) | (clear hK K; clear hK K; refine hK _ _ ?_; clear hK K))) | (apply AWp_block) | (apply AWp_ret; try simp only [AThen, ABlock]; apply end_ret; rfl; try simp only [AFr.get, reduceIte, Nat.reduceEqDiff]) | (apply s_store; (solve | (simp only [go_sem, k3]; try rfl)); (solve | (simp only [go_sem, k3]; try rfl)); (solve | (simp only [go_sem, k3]; try rfl))) | (apply s_mapput; (solve | (simp only [go_sem, k3]; try rfl)); (solve | (simp only [go_sem, k3]; try rfl)); (solve | (simp only [go_sem, k3]; try rfl)); (solve | (simp only [go_sem, k3]; try rfl))) | (apply s_alloc; (first | decide | (dsimp only; decide)); (first | exact zc_48 | exact zc_50); intro b hb) | (apply s_smap; (first | decide | (dsimp only; decide)); exact mp_50; intro b hb)))
    refine ⟨H.put m (.smap (idxE l)), fun c o hco => ?_, h m hm⟩
    rw [AHeap.get_put] at hco
    split at hco
    · rename_i e; subst e; cases hco
      rw [AHeap.get_del, if_neg hmy]; exact g4
    · rw [AHeap.get_del, if_neg (by rintro rfl; rw [hHy] at hco; cases hco)]; exact hE c o hco
  · exact ⟨AHeap.get_put_same _ _ _, get_fresh fc2 hy, get_fresh fq2 hy, by rw [List.drop_of_length_le (Nat.le_refl _)]; exact get_fresh fm2 hy, hE2.put hy⟩
end Go.Proofs.Ytloobmklfjhfpaa
