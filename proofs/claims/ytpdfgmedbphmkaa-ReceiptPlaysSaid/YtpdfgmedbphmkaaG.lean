/-
  The contract of board.
-/
import Derived.Test.YtpdfgmedbphmkaaF
set_option linter.unusedSimpArgs false
set_option linter.unusedVariables false
set_option maxRecDepth 100000
namespace Go.Proofs.Ytpdfgmedbphmkaa
open Go Go.AL
attribute [local irreducible] AOps AWp SOps AE AT ACall AApp

def boardOf (l : List Mark) : List (List UInt8 × Mark) := l.foldl (fun ms m => (put1 m ms).2.2) []
theorem boardOf_step {l : List Mark} {i : Nat} {m : Mark} (h : l[i]? = some m) : boardOf (l.take (i + 1)) = (put1 m (boardOf (l.take i))).2.2 := by
  unfold boardOf; rw [List.take_add_one, h]; simp [List.foldl_append]

theorem board_n {t : Bool} (l : List Mark) (hl : l.length ≤ 1000000) (hu : ∀ m ∈ l, m.user.length < 4294967281) (H : AHeap) (K : AV → AHeap → Prop)
    (h : ∀ p q H', Ext H H' → IsBoard H' p q (boardOf l) → H.get q = none → K (.v (.pointer (some ⟨p, 0, none⟩))) H') : ACall X 10 [.sl t (l.map Mark.cells)] H K := by
  refine ACall_intro Try.func10 rfl (by kernel_rfl) (by rw [Try.ntmps10]; simp) ?_; rw [Try.ntmps10]; simp only [frame0, Nat.reduceAdd]
  (repeat' (first | (refine AWp_seq_k (fun K hK => ?_)) | (apply s_region) | (apply s_q; decide; rfl; (solve | (simp only [go_sem]; try rfl))) | (apply s_nil; try simp only [AThen, ABlock]; try (first | (refine hK _ _ ?_; clear hK K) | (clear hK K; refine hK _ _ ?_; clear hK K) | (clear hK K; clear hK K; refine hK _ _ ?_; clear hK K))) | (apply AWp_block) | (apply AWp_skip; try simp only [AThen, ABlock]; try (first | (refine hK _ _ ?_; clear hK K) | (clear hK K; refine hK _ _ ?_; clear hK K) | (clear hK K; clear hK K; refine hK _ _ ?_; clear hK K))) | (apply AWp_exit; simp only [AThen, ABlock, reduceIte, Nat.reduceEqDiff]; try (first | (refine hK _ _ ?_; clear hK K) | (clear hK K; refine hK _ _ ?_; clear hK K) | (clear hK K; clear hK K; refine hK _ _ ?_; clear hK K))) | (apply AWp_ret; try simp only [AThen, ABlock]; apply end_ret; rfl; try simp only [AFr.get, reduceIte, Nat.reduceEqDiff]) | (apply s_call; decide; (solve | (simp only [go_sem]; try rfl)); (solve | (simp only [go_sem]; try rfl)); apply new_c; intro q p hq hp)))
  have hq0 : H.get q = none := by assumption
  have hp0 := none_fresh hp
  have hpq : p ≠ q := by rintro rfl; rw [AHeap.get_put_same] at hp; cases hp
  refine AWp_loop_s (σ := Nat × AHeap) [0, 3, 4] (fun s => [.sl t (l.map Mark.cells), .v (.pointer (some ⟨p, 0, none⟩)), .v (.int .i64 s.1)]) (fun s => s.2) (fun s => l.length - s.1) (fun s => s.1 ≤ l.length ∧ Ext H s.2 ∧ IsBoard s.2 p q (boardOf (l.take s.1))) (0, _) ⟨Nat.zero_le _, Ext.over (Ext.fresh hq0) hp0, ⟨AHeap.get_put_same _ _ _, get_other (AHeap.get_put_same _ _ _) hpq.symm⟩⟩ rfl rfl (fun s hs => ?_)
  obtain ⟨i, M⟩ := s
  obtain ⟨hi, hM, hB⟩ := hs
  simp only [List.zip_cons_cons, List.zip_nil_right] at hi hM hB ⊢
  (repeat' (first | (refine AWp_seq_k (fun K hK => ?_)) | (apply s_region) | (apply s_q; decide; rfl; (solve | (simp only [go_sem]; try rfl))) | (apply s_nil; try simp only [AThen, ABlock]; try (first | (refine hK _ _ ?_; clear hK K) | (clear hK K; refine hK _ _ ?_; clear hK K) | (clear hK K; clear hK K; refine hK _ _ ?_; clear hK K))) | (apply AWp_block) | (apply AWp_skip; try simp only [AThen, ABlock]; try (first | (refine hK _ _ ?_; clear hK K) | (clear hK K; refine hK _ _ ?_; clear hK K) | (clear hK K; clear hK K; refine hK _ _ ?_; clear hK K))) | (apply AWp_exit; simp only [AThen, ABlock, reduceIte, Nat.reduceEqDiff]; try (first | (refine hK _ _ ?_; clear hK K) | (clear hK K; refine hK _ _ ?_; clear hK K) | (clear hK K; clear hK K; refine hK _ _ ?_; clear hK K))) | (apply AWp_ret; try simp only [AThen, ABlock]; apply end_ret; rfl; try simp only [AFr.get, reduceIte, Nat.reduceEqDiff])))
  refine cond_split (by simp only [go_sem]; try rfl) (fun hd => ?_) (fun hd => ?_)
  · have hlt : i < l.length := by simpa using hd
    obtain ⟨m, hm⟩ : ∃ a, l[i]? = some a := ⟨_, List.getElem?_eq_getElem hlt⟩
    have hg : (l.map Mark.cells)[i]? = some [.s m.user, .v (.int .i64 m.at_), .v (.int .i64 m.ts)] := by rw [List.getElem?_map, hm]; rfl
    (repeat' (first | (refine AWp_seq_k (fun K hK => ?_)) | (apply s_region) | (apply s_q; decide; rfl; (solve | (simp only [go_sem, hg]; try rfl))) | (apply s_nil; try simp only [AThen, ABlock]; try (first | (refine hK _ _ ?_; clear hK K) | (clear hK K; refine hK _ _ ?_; clear hK K) | (clear hK K; clear hK K; refine hK _ _ ?_; clear hK K))) | (apply AWp_block) | (apply AWp_skip; try simp only [AThen, ABlock]; try (first | (refine hK _ _ ?_; clear hK K) | (clear hK K; refine hK _ _ ?_; clear hK K) | (clear hK K; clear hK K; refine hK _ _ ?_; clear hK K))) | (apply AWp_exit; simp only [AThen, ABlock, reduceIte, Nat.reduceEqDiff]; try (first | (refine hK _ _ ?_; clear hK K) | (clear hK K; refine hK _ _ ?_; clear hK K) | (clear hK K; clear hK K; refine hK _ _ ?_; clear hK K))) | (apply AWp_ret; try simp only [AThen, ABlock]; apply end_ret; rfl; try simp only [AFr.get, reduceIte, Nat.reduceEqDiff]) | (apply s_call; decide; (solve | (simp only [go_sem, hg]; try rfl)); (solve | (simp only [go_sem, hg]; try rfl)); apply put_c p q m _ (hu m (List.mem_of_getElem? hm)) _ hB)))
    refine ⟨(i + 1, M.put q (.smap (ents (put1 m (boardOf (l.take i))).2.2))), by simp only; omega, ⟨by simp only; omega, Ext.over hM hq0, ⟨get_other hB.box hpq, ?_⟩⟩, ?_, rfl⟩
    · simp only; rw [AHeap.get_put_same, boardOf_step hm]
    · simp only [getAll, List.map_cons, List.map_nil, AFr.get, reduceIte, Nat.reduceEqDiff]
      rw [wrapS hlt (by omega)]; try rfl
  · have hge : l.length ≤ i := by simpa using hd
    (repeat' (first | (refine AWp_seq_k (fun K hK => ?_)) | (apply s_region) | (apply s_q; decide; rfl; (solve | (simp only [go_sem]; try rfl))) | (apply s_nil; try simp only [AThen, ABlock]; try (first | (refine hK _ _ ?_; clear hK K) | (clear hK K; refine hK _ _ ?_; clear hK K) | (clear hK K; clear hK K; refine hK _ _ ?_; clear hK K))) | (apply AWp_block) | (apply AWp_skip; try simp only [AThen, ABlock]; try (first | (refine hK _ _ ?_; clear hK K) | (clear hK K; refine hK _ _ ?_; clear hK K) | (clear hK K; clear hK K; refine hK _ _ ?_; clear hK K))) | (apply AWp_exit; simp only [AThen, ABlock, reduceIte, Nat.reduceEqDiff]; try (first | (refine hK _ _ ?_; clear hK K) | (clear hK K; refine hK _ _ ?_; clear hK K) | (clear hK K; clear hK K; refine hK _ _ ?_; clear hK K))) | (apply AWp_ret; try simp only [AThen, ABlock]; apply end_ret; rfl; try simp only [AFr.get, reduceIte, Nat.reduceEqDiff])))
    rw [List.take_of_length_le hge] at hB
    exact h p q M hM hB hq0
theorem board_c {t : Bool} (l : List Mark) (hl : l.length ≤ 1000000) (hu : ∀ m ∈ l, m.user.length < 4294967281) (H : AHeap) (K : AV → AHeap → Prop)
    (h : ∀ p q H', Ext H H' → IsBoard H' p q (boardOf l) → K (.v (.pointer (some ⟨p, 0, none⟩))) H') : ACall X 10 [.sl t (l.map Mark.cells)] H K :=
  board_n l hl hu H K fun p q H' h1 h2 _ => h p q H' h1 h2
end Go.Proofs.Ytpdfgmedbphmkaa
