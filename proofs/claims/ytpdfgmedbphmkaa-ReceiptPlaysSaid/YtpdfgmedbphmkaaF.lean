/-
  The contract of Unread.
-/
import Derived.Test.YtpdfgmedbphmkaaE
set_option linter.unusedSimpArgs false
set_option linter.unusedVariables false
set_option maxRecDepth 100000
namespace Go.Proofs.Ytpdfgmedbphmkaa
open Go Go.AL
attribute [local irreducible] AOps AWp SOps AE AT ACall AApp

def fromN (u : List UInt8) (ms : List (List UInt8 × Mark)) (n : Nat) : Nat := match afind u ms with | some x => min x.at_.toNat n + 1 | none => 0
def unread (u : List UInt8) (ms : List (List UInt8 × Mark)) (l : List (List UInt8)) : Nat := ((l.drop (fromN u ms l.length)).filter fun s => !decide (s = u)).length

theorem unread_loop (u : List UInt8) (l : List (List UInt8)) (i : Nat) (x : List UInt8) (h : l[i]? = some x) : ((l.drop i).filter fun s => !decide (s = u)).length = (if x = u then 0 else 1) + ((l.drop (i + 1)).filter fun s => !decide (s = u)).length := by
  have hlt : i < l.length := (List.getElem?_eq_some_iff.1 h).1
  have hx : l[i] = x := (List.getElem?_eq_some_iff.1 h).2
  rw [List.drop_eq_getElem_cons hlt, hx]
  by_cases e : x = u
  · simp [e]
  · simp [e]; omega

theorem unread_c (p q : Nat) (u : List UInt8) (ms : List (List UInt8 × Mark)) (t : Bool) (l : List (List UInt8)) (hl : l.length ≤ 4611686018427387904) (hpos : ∀ x, afind u ms = some x → 0 ≤ x.at_) (H : AHeap) (hB : IsBoard H p q ms) (K : AV → AHeap → Prop)
    (h : K (.v (.int .i64 (unread u ms l))) H) : ACall X 11 [.v (.pointer (some ⟨p, 0, none⟩)), .s u, .sl t (l.map bytesCells)] H K := by
  refine ACall.drop ?_
  obtain ⟨⟨gu, ga, gt⟩, hga⟩ : ∃ g, getA u ms = g := ⟨_, rfl⟩
  refine ACall_intro Try.func11 rfl (by kernel_rfl) (by rw [Try.ntmps11]; simp) ?_; rw [Try.ntmps11]; simp only [frame0, Nat.reduceAdd]
  (repeat' (first | (refine AWp_seq_k (fun K hK => ?_)) | (apply s_region) | (apply s_q; decide; rfl; (solve | (simp only [go_sem, hga, Mark.cells]; try rfl))) | (apply s_nil; try simp only [AThen, ABlock]; try (first | (refine hK _ _ ?_; clear hK K) | (clear hK K; refine hK _ _ ?_; clear hK K) | (clear hK K; clear hK K; refine hK _ _ ?_; clear hK K))) | (apply AWp_block) | (apply AWp_skip; try simp only [AThen, ABlock]; try (first | (refine hK _ _ ?_; clear hK K) | (clear hK K; refine hK _ _ ?_; clear hK K) | (clear hK K; clear hK K; refine hK _ _ ?_; clear hK K))) | (apply AWp_exit; simp only [AThen, ABlock, reduceIte, Nat.reduceEqDiff]; try (first | (refine hK _ _ ?_; clear hK K) | (clear hK K; refine hK _ _ ?_; clear hK K) | (clear hK K; clear hK K; refine hK _ _ ?_; clear hK K))) | (apply AWp_ret; try simp only [AThen, ABlock]; apply end_ret; rfl; try simp only [AFr.get, reduceIte, Nat.reduceEqDiff]) | (apply s_store; (solve | (simp only [go_sem, hga, Mark.cells]; try rfl)); (solve | (simp only [go_sem, hga, Mark.cells]; try rfl)); (solve | (simp only [go_sem, hga, Mark.cells]; try rfl))) | (apply s_alloc; decide; exact zc_31; intro b hb) | (apply s_call; decide; (solve | (simp only [go_sem, hga, Mark.cells]; try rfl)); (solve | (simp only [go_sem, hga, Mark.cells]; try rfl)); apply get_c p q u ms _ hB)))
  refine cond_split (by simp only [go_sem]; try rfl) (fun hc => ?_) (fun hc => ?_)
  · (repeat' (first | (refine AWp_seq_k (fun K hK => ?_)) | (apply s_region) | (apply s_q; decide; rfl; (solve | (simp only [go_sem]; try rfl))) | (apply s_nil; try simp only [AThen, ABlock]; try (first | (refine hK _ _ ?_; clear hK K) | (clear hK K; refine hK _ _ ?_; clear hK K) | (clear hK K; clear hK K; refine hK _ _ ?_; clear hK K))) | (apply AWp_block) | (apply AWp_skip; try simp only [AThen, ABlock]; try (first | (refine hK _ _ ?_; clear hK K) | (clear hK K; refine hK _ _ ?_; clear hK K) | (clear hK K; clear hK K; refine hK _ _ ?_; clear hK K))) | (apply AWp_exit; simp only [AThen, ABlock, reduceIte, Nat.reduceEqDiff]; try (first | (refine hK _ _ ?_; clear hK K) | (clear hK K; refine hK _ _ ?_; clear hK K) | (clear hK K; clear hK K; refine hK _ _ ?_; clear hK K))) | (apply AWp_ret; try simp only [AThen, ABlock]; apply end_ret; rfl; try simp only [AFr.get, reduceIte, Nat.reduceEqDiff]) | (apply s_store; (solve | (simp only [go_sem]; try rfl)); (solve | (simp only [go_sem]; try rfl)); (solve | (simp only [go_sem]; try rfl))) | (apply s_alloc; decide; exact zc_31; intro b hb)))
    have ef : IntKind.i64.wrap ((if (l.length : Int) < ga then (l.length : Int) else ga) + 1) = ((fromN u ms l.length : Nat) : Int) := by
      cases hf : afind u ms with
      | none => rw [hf] at hc; cases hc
      | some x =>
        have hx : x = ⟨gu, ga, gt⟩ := by rw [← hga, getA, hf]; rfl
        have h0 := hpos x hf
        rw [hx] at h0
        simp only at h0
        simp only [fromN, hf, hx]
        rw [wrap64 (by split <;> omega)]
        split <;> omega
    refine AWp_loop_s (σ := Nat × Nat) [1, 2, 10, 11] (fun s => [.s u, .sl t (l.map bytesCells), .v (.int .i64 s.2), .v (.int .i64 s.1)]) (fun _ => _) (fun s => l.length - s.1) (fun s => s.2 ≤ s.1 ∧ s.2 + ((l.drop s.1).filter fun s => !decide (s = u)).length = unread u ms l) (fromN u ms l.length, 0) ⟨Nat.zero_le _, by simp [unread]⟩ (by simp only [getAll, List.map_cons, List.map_nil, AFr.get, reduceIte, Nat.reduceEqDiff, Int.natCast_zero]; rw [← ef]; try rfl) rfl (fun s hs => ?_)
    obtain ⟨i, n⟩ := s
    simp only [List.zip_cons_cons, List.zip_nil_right] at hs ⊢
    (repeat' (first | (refine AWp_seq_k (fun K hK => ?_)) | (apply s_region) | (apply s_q; decide; rfl; (solve | (simp only [go_sem]; try rfl))) | (apply s_nil; try simp only [AThen, ABlock]; try (first | (refine hK _ _ ?_; clear hK K) | (clear hK K; refine hK _ _ ?_; clear hK K) | (clear hK K; clear hK K; refine hK _ _ ?_; clear hK K))) | (apply AWp_block) | (apply AWp_skip; try simp only [AThen, ABlock]; try (first | (refine hK _ _ ?_; clear hK K) | (clear hK K; refine hK _ _ ?_; clear hK K) | (clear hK K; clear hK K; refine hK _ _ ?_; clear hK K))) | (apply AWp_exit; simp only [AThen, ABlock, reduceIte, Nat.reduceEqDiff]; try (first | (refine hK _ _ ?_; clear hK K) | (clear hK K; refine hK _ _ ?_; clear hK K) | (clear hK K; clear hK K; refine hK _ _ ?_; clear hK K))) | (apply AWp_ret; try simp only [AThen, ABlock]; apply end_ret; rfl; try simp only [AFr.get, reduceIte, Nat.reduceEqDiff]) | (apply s_store; (solve | (simp only [go_sem]; try rfl)); (solve | (simp only [go_sem]; try rfl)); (solve | (simp only [go_sem]; try rfl))) | (apply s_alloc; decide; exact zc_31; intro b hb)))
    refine cond_split (by simp only [go_sem]; try rfl) (fun hd => ?_) (fun hd => ?_)
    · have hlt : i < l.length := by simpa using hd
      obtain ⟨x, hm⟩ : ∃ a, l[i]? = some a := ⟨_, List.getElem?_eq_getElem hlt⟩
      have hg : (l.map bytesCells)[i]? = some [.s x] := by rw [List.getElem?_map, hm]; rfl
      have hlp := unread_loop u l i x hm
      (repeat' (first | (refine AWp_seq_k (fun K hK => ?_)) | (apply s_region) | (apply s_q; decide; rfl; (solve | (simp only [go_sem, hg]; try rfl))) | (apply s_nil; try simp only [AThen, ABlock]; try (first | (refine hK _ _ ?_; clear hK K) | (clear hK K; refine hK _ _ ?_; clear hK K) | (clear hK K; clear hK K; refine hK _ _ ?_; clear hK K))) | (apply AWp_block) | (apply AWp_skip; try simp only [AThen, ABlock]; try (first | (refine hK _ _ ?_; clear hK K) | (clear hK K; refine hK _ _ ?_; clear hK K) | (clear hK K; clear hK K; refine hK _ _ ?_; clear hK K))) | (apply AWp_exit; simp only [AThen, ABlock, reduceIte, Nat.reduceEqDiff]; try (first | (refine hK _ _ ?_; clear hK K) | (clear hK K; refine hK _ _ ?_; clear hK K) | (clear hK K; clear hK K; refine hK _ _ ?_; clear hK K))) | (apply AWp_ret; try simp only [AThen, ABlock]; apply end_ret; rfl; try simp only [AFr.get, reduceIte, Nat.reduceEqDiff]) | (apply s_store; (solve | (simp only [go_sem, hg]; try rfl)); (solve | (simp only [go_sem, hg]; try rfl)); (solve | (simp only [go_sem, hg]; try rfl))) | (apply s_alloc; decide; exact zc_31; intro b hb)))
      refine cond_split (by simp only [go_sem]; try rfl) (fun he => ?_) (fun he => ?_)
      · have hxu : ¬ x = u := by simpa using he
        rw [if_neg hxu] at hlp
        (repeat' (first | (refine AWp_seq_k (fun K hK => ?_)) | (apply s_region) | (apply s_q; decide; rfl; (solve | (simp only [go_sem]; try rfl))) | (apply s_nil; try simp only [AThen, ABlock]; try (first | (refine hK _ _ ?_; clear hK K) | (clear hK K; refine hK _ _ ?_; clear hK K) | (clear hK K; clear hK K; refine hK _ _ ?_; clear hK K))) | (apply AWp_block) | (apply AWp_skip; try simp only [AThen, ABlock]; try (first | (refine hK _ _ ?_; clear hK K) | (clear hK K; refine hK _ _ ?_; clear hK K) | (clear hK K; clear hK K; refine hK _ _ ?_; clear hK K))) | (apply AWp_exit; simp only [AThen, ABlock, reduceIte, Nat.reduceEqDiff]; try (first | (refine hK _ _ ?_; clear hK K) | (clear hK K; refine hK _ _ ?_; clear hK K) | (clear hK K; clear hK K; refine hK _ _ ?_; clear hK K))) | (apply AWp_ret; try simp only [AThen, ABlock]; apply end_ret; rfl; try simp only [AFr.get, reduceIte, Nat.reduceEqDiff]) | (apply s_store; (solve | (simp only [go_sem]; try rfl)); (solve | (simp only [go_sem]; try rfl)); (solve | (simp only [go_sem]; try rfl))) | (apply s_alloc; decide; exact zc_31; intro b hb)))
        refine ⟨(i + 1, n + 1), by simp only; omega, ⟨by simp only; omega, by simp only; omega⟩, ?_, by trivial⟩
        simp only [getAll, List.map_cons, List.map_nil, AFr.get, reduceIte, Nat.reduceEqDiff]
        rw [wrapS hlt (by omega), wrap64 (by omega)]; try rfl
      · have hxu : x = u := by simpa using he
        rw [if_pos hxu] at hlp
        (repeat' (first | (refine AWp_seq_k (fun K hK => ?_)) | (apply s_region) | (apply s_q; decide; rfl; (solve | (simp only [go_sem]; try rfl))) | (apply s_nil; try simp only [AThen, ABlock]; try (first | (refine hK _ _ ?_; clear hK K) | (clear hK K; refine hK _ _ ?_; clear hK K) | (clear hK K; clear hK K; refine hK _ _ ?_; clear hK K))) | (apply AWp_block) | (apply AWp_skip; try simp only [AThen, ABlock]; try (first | (refine hK _ _ ?_; clear hK K) | (clear hK K; refine hK _ _ ?_; clear hK K) | (clear hK K; clear hK K; refine hK _ _ ?_; clear hK K))) | (apply AWp_exit; simp only [AThen, ABlock, reduceIte, Nat.reduceEqDiff]; try (first | (refine hK _ _ ?_; clear hK K) | (clear hK K; refine hK _ _ ?_; clear hK K) | (clear hK K; clear hK K; refine hK _ _ ?_; clear hK K))) | (apply AWp_ret; try simp only [AThen, ABlock]; apply end_ret; rfl; try simp only [AFr.get, reduceIte, Nat.reduceEqDiff]) | (apply s_store; (solve | (simp only [go_sem]; try rfl)); (solve | (simp only [go_sem]; try rfl)); (solve | (simp only [go_sem]; try rfl))) | (apply s_alloc; decide; exact zc_31; intro b hb)))
        refine ⟨(i + 1, n), by simp only; omega, ⟨by simp only; omega, by simp only; omega⟩, ?_, by trivial⟩
        simp only [getAll, List.map_cons, List.map_nil, AFr.get, reduceIte, Nat.reduceEqDiff]
        rw [wrapS hlt (by omega)]; try rfl
    · have hge : l.length ≤ i := by simpa using hd
      (repeat' (first | (refine AWp_seq_k (fun K hK => ?_)) | (apply s_region) | (apply s_q; decide; rfl; (solve | (simp only [go_sem]; try rfl))) | (apply s_nil; try simp only [AThen, ABlock]; try (first | (refine hK _ _ ?_; clear hK K) | (clear hK K; refine hK _ _ ?_; clear hK K) | (clear hK K; clear hK K; refine hK _ _ ?_; clear hK K))) | (apply AWp_block) | (apply AWp_skip; try simp only [AThen, ABlock]; try (first | (refine hK _ _ ?_; clear hK K) | (clear hK K; refine hK _ _ ?_; clear hK K) | (clear hK K; clear hK K; refine hK _ _ ?_; clear hK K))) | (apply AWp_exit; simp only [AThen, ABlock, reduceIte, Nat.reduceEqDiff]; try (first | (refine hK _ _ ?_; clear hK K) | (clear hK K; refine hK _ _ ?_; clear hK K) | (clear hK K; clear hK K; refine hK _ _ ?_; clear hK K))) | (apply AWp_ret; try simp only [AThen, ABlock]; apply end_ret; rfl; try simp only [AFr.get, reduceIte, Nat.reduceEqDiff]) | (apply s_store; (solve | (simp only [go_sem]; try rfl)); (solve | (simp only [go_sem]; try rfl)); (solve | (simp only [go_sem]; try rfl))) | (apply s_alloc; decide; exact zc_31; intro b hb)))
      refine ⟨H, Ext.fresh (by assumption), ?_⟩
      refine finI h ?_
      have := hs.2
      rw [List.drop_eq_nil_of_le hge] at this
      simp at this
      omega
  · (repeat' (first | (refine AWp_seq_k (fun K hK => ?_)) | (apply s_region) | (apply s_q; decide; rfl; (solve | (simp only [go_sem]; try rfl))) | (apply s_nil; try simp only [AThen, ABlock]; try (first | (refine hK _ _ ?_; clear hK K) | (clear hK K; refine hK _ _ ?_; clear hK K) | (clear hK K; clear hK K; refine hK _ _ ?_; clear hK K))) | (apply AWp_block) | (apply AWp_skip; try simp only [AThen, ABlock]; try (first | (refine hK _ _ ?_; clear hK K) | (clear hK K; refine hK _ _ ?_; clear hK K) | (clear hK K; clear hK K; refine hK _ _ ?_; clear hK K))) | (apply AWp_exit; simp only [AThen, ABlock, reduceIte, Nat.reduceEqDiff]; try (first | (refine hK _ _ ?_; clear hK K) | (clear hK K; refine hK _ _ ?_; clear hK K) | (clear hK K; clear hK K; refine hK _ _ ?_; clear hK K))) | (apply AWp_ret; try simp only [AThen, ABlock]; apply end_ret; rfl; try simp only [AFr.get, reduceIte, Nat.reduceEqDiff]) | (apply s_store; (solve | (simp only [go_sem]; try rfl)); (solve | (simp only [go_sem]; try rfl)); (solve | (simp only [go_sem]; try rfl))) | (apply s_alloc; decide; exact zc_31; intro b hb)))
    have ef : ((fromN u ms l.length : Nat) : Int) = 0 := by
      have : afind u ms = none := by simpa using hc
      simp [fromN, this]
    refine AWp_loop_s (σ := Nat × Nat) [1, 2, 10, 11] (fun s => [.s u, .sl t (l.map bytesCells), .v (.int .i64 s.2), .v (.int .i64 s.1)]) (fun _ => _) (fun s => l.length - s.1) (fun s => s.2 ≤ s.1 ∧ s.2 + ((l.drop s.1).filter fun s => !decide (s = u)).length = unread u ms l) (fromN u ms l.length, 0) ⟨Nat.zero_le _, by simp [unread]⟩ (by simp only [getAll, List.map_cons, List.map_nil, AFr.get, reduceIte, Nat.reduceEqDiff, Int.natCast_zero]; rw [ef]; try rfl) rfl (fun s hs => ?_)
    obtain ⟨i, n⟩ := s
    simp only [List.zip_cons_cons, List.zip_nil_right] at hs ⊢
    (repeat' (first | (refine AWp_seq_k (fun K hK => ?_)) | (apply s_region) | (apply s_q; decide; rfl; (solve | (simp only [go_sem]; try rfl))) | (apply s_nil; try simp only [AThen, ABlock]; try (first | (refine hK _ _ ?_; clear hK K) | (clear hK K; refine hK _ _ ?_; clear hK K) | (clear hK K; clear hK K; refine hK _ _ ?_; clear hK K))) | (apply AWp_block) | (apply AWp_skip; try simp only [AThen, ABlock]; try (first | (refine hK _ _ ?_; clear hK K) | (clear hK K; refine hK _ _ ?_; clear hK K) | (clear hK K; clear hK K; refine hK _ _ ?_; clear hK K))) | (apply AWp_exit; simp only [AThen, ABlock, reduceIte, Nat.reduceEqDiff]; try (first | (refine hK _ _ ?_; clear hK K) | (clear hK K; refine hK _ _ ?_; clear hK K) | (clear hK K; clear hK K; refine hK _ _ ?_; clear hK K))) | (apply AWp_ret; try simp only [AThen, ABlock]; apply end_ret; rfl; try simp only [AFr.get, reduceIte, Nat.reduceEqDiff]) | (apply s_store; (solve | (simp only [go_sem]; try rfl)); (solve | (simp only [go_sem]; try rfl)); (solve | (simp only [go_sem]; try rfl))) | (apply s_alloc; decide; exact zc_31; intro b hb)))
    refine cond_split (by simp only [go_sem]; try rfl) (fun hd => ?_) (fun hd => ?_)
    · have hlt : i < l.length := by simpa using hd
      obtain ⟨x, hm⟩ : ∃ a, l[i]? = some a := ⟨_, List.getElem?_eq_getElem hlt⟩
      have hg : (l.map bytesCells)[i]? = some [.s x] := by rw [List.getElem?_map, hm]; rfl
      have hlp := unread_loop u l i x hm
      (repeat' (first | (refine AWp_seq_k (fun K hK => ?_)) | (apply s_region) | (apply s_q; decide; rfl; (solve | (simp only [go_sem, hg]; try rfl))) | (apply s_nil; try simp only [AThen, ABlock]; try (first | (refine hK _ _ ?_; clear hK K) | (clear hK K; refine hK _ _ ?_; clear hK K) | (clear hK K; clear hK K; refine hK _ _ ?_; clear hK K))) | (apply AWp_block) | (apply AWp_skip; try simp only [AThen, ABlock]; try (first | (refine hK _ _ ?_; clear hK K) | (clear hK K; refine hK _ _ ?_; clear hK K) | (clear hK K; clear hK K; refine hK _ _ ?_; clear hK K))) | (apply AWp_exit; simp only [AThen, ABlock, reduceIte, Nat.reduceEqDiff]; try (first | (refine hK _ _ ?_; clear hK K) | (clear hK K; refine hK _ _ ?_; clear hK K) | (clear hK K; clear hK K; refine hK _ _ ?_; clear hK K))) | (apply AWp_ret; try simp only [AThen, ABlock]; apply end_ret; rfl; try simp only [AFr.get, reduceIte, Nat.reduceEqDiff]) | (apply s_store; (solve | (simp only [go_sem, hg]; try rfl)); (solve | (simp only [go_sem, hg]; try rfl)); (solve | (simp only [go_sem, hg]; try rfl))) | (apply s_alloc; decide; exact zc_31; intro b hb)))
      refine cond_split (by simp only [go_sem]; try rfl) (fun he => ?_) (fun he => ?_)
      · have hxu : ¬ x = u := by simpa using he
        rw [if_neg hxu] at hlp
        (repeat' (first | (refine AWp_seq_k (fun K hK => ?_)) | (apply s_region) | (apply s_q; decide; rfl; (solve | (simp only [go_sem]; try rfl))) | (apply s_nil; try simp only [AThen, ABlock]; try (first | (refine hK _ _ ?_; clear hK K) | (clear hK K; refine hK _ _ ?_; clear hK K) | (clear hK K; clear hK K; refine hK _ _ ?_; clear hK K))) | (apply AWp_block) | (apply AWp_skip; try simp only [AThen, ABlock]; try (first | (refine hK _ _ ?_; clear hK K) | (clear hK K; refine hK _ _ ?_; clear hK K) | (clear hK K; clear hK K; refine hK _ _ ?_; clear hK K))) | (apply AWp_exit; simp only [AThen, ABlock, reduceIte, Nat.reduceEqDiff]; try (first | (refine hK _ _ ?_; clear hK K) | (clear hK K; refine hK _ _ ?_; clear hK K) | (clear hK K; clear hK K; refine hK _ _ ?_; clear hK K))) | (apply AWp_ret; try simp only [AThen, ABlock]; apply end_ret; rfl; try simp only [AFr.get, reduceIte, Nat.reduceEqDiff]) | (apply s_store; (solve | (simp only [go_sem]; try rfl)); (solve | (simp only [go_sem]; try rfl)); (solve | (simp only [go_sem]; try rfl))) | (apply s_alloc; decide; exact zc_31; intro b hb)))
        refine ⟨(i + 1, n + 1), by simp only; omega, ⟨by simp only; omega, by simp only; omega⟩, ?_, by trivial⟩
        simp only [getAll, List.map_cons, List.map_nil, AFr.get, reduceIte, Nat.reduceEqDiff]
        rw [wrapS hlt (by omega), wrap64 (by omega)]; try rfl
      · have hxu : x = u := by simpa using he
        rw [if_pos hxu] at hlp
        (repeat' (first | (refine AWp_seq_k (fun K hK => ?_)) | (apply s_region) | (apply s_q; decide; rfl; (solve | (simp only [go_sem]; try rfl))) | (apply s_nil; try simp only [AThen, ABlock]; try (first | (refine hK _ _ ?_; clear hK K) | (clear hK K; refine hK _ _ ?_; clear hK K) | (clear hK K; clear hK K; refine hK _ _ ?_; clear hK K))) | (apply AWp_block) | (apply AWp_skip; try simp only [AThen, ABlock]; try (first | (refine hK _ _ ?_; clear hK K) | (clear hK K; refine hK _ _ ?_; clear hK K) | (clear hK K; clear hK K; refine hK _ _ ?_; clear hK K))) | (apply AWp_exit; simp only [AThen, ABlock, reduceIte, Nat.reduceEqDiff]; try (first | (refine hK _ _ ?_; clear hK K) | (clear hK K; refine hK _ _ ?_; clear hK K) | (clear hK K; clear hK K; refine hK _ _ ?_; clear hK K))) | (apply AWp_ret; try simp only [AThen, ABlock]; apply end_ret; rfl; try simp only [AFr.get, reduceIte, Nat.reduceEqDiff]) | (apply s_store; (solve | (simp only [go_sem]; try rfl)); (solve | (simp only [go_sem]; try rfl)); (solve | (simp only [go_sem]; try rfl))) | (apply s_alloc; decide; exact zc_31; intro b hb)))
        refine ⟨(i + 1, n), by simp only; omega, ⟨by simp only; omega, by simp only; omega⟩, ?_, by trivial⟩
        simp only [getAll, List.map_cons, List.map_nil, AFr.get, reduceIte, Nat.reduceEqDiff]
        rw [wrapS hlt (by omega)]; try rfl
    · have hge : l.length ≤ i := by simpa using hd
      (repeat' (first | (refine AWp_seq_k (fun K hK => ?_)) | (apply s_region) | (apply s_q; decide; rfl; (solve | (simp only [go_sem]; try rfl))) | (apply s_nil; try simp only [AThen, ABlock]; try (first | (refine hK _ _ ?_; clear hK K) | (clear hK K; refine hK _ _ ?_; clear hK K) | (clear hK K; clear hK K; refine hK _ _ ?_; clear hK K))) | (apply AWp_block) | (apply AWp_skip; try simp only [AThen, ABlock]; try (first | (refine hK _ _ ?_; clear hK K) | (clear hK K; refine hK _ _ ?_; clear hK K) | (clear hK K; clear hK K; refine hK _ _ ?_; clear hK K))) | (apply AWp_exit; simp only [AThen, ABlock, reduceIte, Nat.reduceEqDiff]; try (first | (refine hK _ _ ?_; clear hK K) | (clear hK K; refine hK _ _ ?_; clear hK K) | (clear hK K; clear hK K; refine hK _ _ ?_; clear hK K))) | (apply AWp_ret; try simp only [AThen, ABlock]; apply end_ret; rfl; try simp only [AFr.get, reduceIte, Nat.reduceEqDiff]) | (apply s_store; (solve | (simp only [go_sem]; try rfl)); (solve | (simp only [go_sem]; try rfl)); (solve | (simp only [go_sem]; try rfl))) | (apply s_alloc; decide; exact zc_31; intro b hb)))
      refine ⟨H, Ext.fresh (by assumption), ?_⟩
      refine finI h ?_
      have := hs.2
      rw [List.drop_eq_nil_of_le hge] at this
      simp at this
      omega
end Go.Proofs.Ytpdfgmedbphmkaa
