/-
  The law about lines. Contract.
-/
import Derived.Test.YtcpfgjfiacfmoaaGreatDoorGPart9
set_option linter.unusedSimpArgs false
set_option linter.unusedVariables false
set_option maxRecDepth 100000
namespace Go.Proofs.YtcpfgjfiacfmoaaGreatDoor
open Go Go.AL
attribute [local irreducible] AOps AWp SOps AE AT ACall AApp

theorem lineL_down {p : Pa} (hr : p.Right) : ∀ (n i : Nat), i ≤ n → ∀ (k : Nat) (x y : Int), (lineL p i)[k]? = some x → (lineL p i)[k + 1]? = some y → 0 ≤ y ∧ y < x
  | n, i, hi, k, x, y, hx, hy => by
    rw [line_step hr] at hx hy
    rcases leanI_lt hr (i := i) (kind := tPower) with e | ⟨m, e, hm, _⟩
    · rw [e, line_neg] at hy
      simp at hy
    · rw [e] at hx hy
      rw [List.getElem?_cons_succ] at hy
      cases k with
      | zero =>
        rw [List.getElem?_cons_zero] at hx
        rw [line_step hr, List.getElem?_cons_zero] at hy
        cases hx; cases hy
        omega
      | succ k =>
        rw [List.getElem?_cons_succ] at hx
        cases n with
        | zero => omega
        | succ n => exact lineL_down hr n m (by omega) k x y hx hy
theorem lineA_down {p : Pa} {i : Int} {k : Nat} {x y : Int} (hx : (lineA p i)[k]? = some x) (hy : (lineA p i)[k + 1]? = some y) : 0 ≤ y ∧ y < x := by
  rw [lineA] at hx hy
  split at hx
  · rename_i hr
    rw [if_pos hr] at hy
    rw [lineP] at hx hy
    split at hx
    · rename_i hin
      rw [if_pos hin] at hy
      have hin : 0 ≤ i ∧ i < p.events.length := by simpa [inR] using hin
      obtain ⟨n, rfl⟩ : ∃ n : Nat, i = n := ⟨i.toNat, by omega⟩
      exact lineL_down (right_true hr) n n (Nat.le_refl _) k x y hx hy
    · simp at hx
  · simp at hx
set_option maxHeartbeats 2000000 in
theorem law_lines (p : Pa) (hw : p.Wide) (t : Bool) (l : List Int) (hl : l.length ≤ 4611686018427387904) (H : AHeap) (K : AV → AHeap → Prop) (h : K (.v (.bool true)) H) : ACall X 6 [.agg p.cells, .sl t (l.map intCells)] H K := by
  have hF : ∀ (H : AHeap) (K : AV → AHeap → Prop), (∀ b, (b = true → p.Few) → K (.v (.bool b)) H) → ACall X 15 [.agg (pCells p)] H K := fun H K hk => few12_c p hw H K hk
  refine ACall.drop ?_
  rw [show p.cells = pCells p from rfl]
  refine ACall_intro Tryz.func6 rfl (by kernel_rfl) (by rw [Tryz.ntmps6]; simp) ?_; rw [Tryz.ntmps6]; simp only [frame0, Nat.reduceAdd]
  refine AWp_seq_k (fun K hK => ?_); apply s_region
  apply s_box; decide; exact (by simp only [go_sem]; try rfl); exact (by simp only [go_sem]; try rfl); intro q hq
  generalize hgenq : AHeap.put q _ H = M; obtain ⟨g1, hextq⟩ := gen_ex hgenq hq; have hE := hextq; clear hextq hgenq
  (apply s_q; decide; rfl; (simp only [go_sem, g1]; rfl); apply s_nil; simp only [AThen, ABlock]; refine hK _ _ ?_; clear hK K; (iterate 2 (refine AWp_seq_k (fun K hK => ?_))); apply s_region; apply s_q; decide; rfl; (simp only [go_sem, g1]; rfl); apply s_call; decide; (simp only [go_sem, g1]; rfl); (simp only [go_sem, g1]; rfl); apply hF; intro b hb; (iterate 2 (apply s_q; decide; rfl; (simp only [go_sem, g1]; rfl))); apply s_spec; decide; rfl; rfl; (simp only [go_sem, g1]; rfl); (simp only [go_sem, g1]; rfl); (simp only [go_sem, g1]; rfl); (simp only [go_sem, g1]; rfl); trivial; (iterate 2 (apply s_spec; decide; rfl; rfl; (simp only [go_sem, g1]; rfl); (simp only [go_sem, g1]; rfl); (simp only [go_sem, g1]; rfl); (simp only [go_sem, g1]; rfl); simp [condsOk])); apply s_pick; decide; (simp only [go_sem, g1]; rfl); (simp only [go_sem, g1]; rfl); (simp only [go_sem, g1]; rfl); (simp only [go_sem, g1]; rfl); (simp only [go_sem, g1]; rfl); (simp only [go_sem, g1]; rfl); trivial; trivial; simp [condsOk]; apply s_nil; simp only [AThen, ABlock]; refine hK _ _ ?_; clear hK K)
  refine cond_split (by simp only [go_sem]; try rfl) (fun hc => ?_) (fun hc => ?_)
  · (refine AWp_seq_k (fun K hK => ?_); apply s_region; apply s_q; decide; rfl; (simp only [go_sem]; rfl); apply s_nil; simp only [AThen, ABlock]; refine hK _ _ ?_; clear hK K; apply AWp_ret; simp only [AThen, ABlock]; apply end_ret; rfl; simp only [AFr.get, reduceIte, Nat.reduceEqDiff])
    exact ⟨H, hE, h⟩
  have hfl : p.Few ∧ l.length ≤ 50 := by cases b <;> simp at hc hb <;> exact ⟨hb, by omega⟩
  obtain ⟨hf, hl50⟩ := hfl
  have hev := hf.ev
  have h1 : ∀ (i : Int) (H : AHeap) (K : AV → AHeap → Prop), K (.sl false ((lineA p i).map intCells)) H → ACall X 21 [.agg (pCells p), .v (.int .i64 i)] H K := fun i H K hk => line_c p hw (by omega) i H K hk
  have h2 : ∀ (i : Int) (H : AHeap) (K : AV → AHeap → Prop), K (.sl false ((lineA p i).map intCells)) H → ACall X 22 [.agg (pCells p), .v (.int .i64 i)] H K := fun i H K hk => rline_c p hw (by omega) i H K hk
  have h3 : ∀ (i : Int) (H : AHeap) (K : AV → AHeap → Prop), K (.v (.int .i64 (nearA p l i))) H → ACall X 23 [.agg (pCells p), .sl t (l.map intCells), .v (.int .i64 i)] H K := fun i H K hk => near_c p hw (by omega) t l (by omega) i H K hk
  have h4 : ∀ (i : Int) (H : AHeap) (K : AV → AHeap → Prop), K (.v (.int .i64 (nearA p l i))) H → ACall X 24 [.agg (pCells p), .sl t (l.map intCells), .v (.int .i64 i)] H K := fun i H K hk => rnear_c p hw (by omega) t l (by omega) i H K hk
  have hS : ∀ (i : Int) (H : AHeap) (K : AV → AHeap → Prop), K (.v (.bool true)) H → ACall X 18 [.sl false ((lineA p i).map intCells), .sl false ((lineA p i).map intCells)] H K := fun i H K hk => by
    have := lineA_len (p := p) (i := i)
    exact same12_c false false _ _ (by omega) H K (by simpa using hk)
  (apply AWp_skip; simp only [AThen, ABlock]; refine hK _ _ ?_; clear hK K; (iterate 2 (refine AWp_seq_k (fun K hK => ?_))); apply s_region; apply s_q; decide; rfl; (simp only [go_sem]; rfl); apply s_nil; simp only [AThen, ABlock]; refine hK _ _ ?_; clear hK K; apply AWp_block)
  refine AWp_loop_s (σ := Nat) [1, 2, 5] (fun i => [.sl t (l.map intCells), ptrTo q, .v (.int .i64 ((i : Int) - 1))]) (fun _ => M) (fun i => p.events.length + 2 - i) (fun i => i ≤ p.events.length + 2) 0 (Nat.zero_le _) rfl rfl (fun i hi => ?_)
  simp only [List.zip_cons_cons, List.zip_nil_right]
  ((iterate 2 (refine AWp_seq_k (fun K hK => ?_))); apply s_region; (iterate 5 (apply s_q; decide; rfl; (simp only [go_sem, g1]; rfl))); apply s_nil; simp only [AThen, ABlock]; refine hK _ _ ?_; clear hK K)
  refine cond_split (by simp only [go_sem]; try rfl) (fun hd => ?_) (fun hd => ?_)
  · have hlt : i < p.events.length + 2 := by simp at hd; omega
    obtain ⟨z, hz⟩ : ∃ z : Int, z = (i : Int) - 1 := ⟨_, rfl⟩
    rw [← hz]
    (apply AWp_skip; simp only [AThen, ABlock]; refine hK _ _ ?_; clear hK K; refine AWp_seq_k (fun K hK => ?_); apply AWp_block; (iterate 2 (refine AWp_seq_k (fun K hK => ?_))))
    apply AWp_drawA [0, 1, 2, 3, 4, 5, 6, 7, 8, 9, 10, 11, 12, 13, 14, 15, 16, 17, 18] [] 0 (by exact mixed); kernel_rfl; (simp only [go_sem]; rfl); (simp only [go_sem]; rfl)
    ((iterate 2 (apply e_q; decide; (simp only [go_sem, g1]; rfl))); apply e_call; decide; (simp only [go_sem, g1]; rfl); (simp only [go_sem, g1]; rfl); (apply h1; exact ⟨rfl, rfl⟩); (iterate 2 (apply e_q; decide; (simp only [go_sem, g1]; rfl))); apply e_call; decide; (simp only [go_sem, g1]; rfl); (simp only [go_sem, g1]; rfl); (apply h2; exact ⟨rfl, rfl⟩); apply e_call; decide; (simp only [go_sem, g1]; rfl); (simp only [go_sem, g1]; rfl); (apply hS; exact ⟨rfl, rfl⟩); (iterate 2 (apply e_q; decide; (simp only [go_sem, g1]; rfl))); (iterate 3 (apply e_spec; decide; (simp only [go_sem, g1]; rfl); (simp only [go_sem, g1]; rfl); (simp only [go_sem, g1]; rfl); (simp only [go_sem, g1]; rfl); trivial)); apply e_gpure; decide; (simp only [go_sem, g1]; rfl); (simp only [go_sem, g1]; rfl); (simp only [go_sem, g1]; rfl); trivial; (simp only [go_sem, g1]; rfl); (simp only [go_sem, g1]; rfl); (apply h3; exact ⟨rfl, rfl⟩); (iterate 3 (apply e_spec; decide; (simp only [go_sem, g1]; rfl); (simp only [go_sem, g1]; rfl); (simp only [go_sem, g1]; rfl); (simp only [go_sem, g1]; rfl); trivial)); apply e_gpure; decide; (simp only [go_sem, g1]; rfl); (simp only [go_sem, g1]; rfl); (simp only [go_sem, g1]; rfl); trivial; (simp only [go_sem, g1]; rfl); (simp only [go_sem, g1]; rfl); (apply h4; exact ⟨rfl, rfl⟩); apply e_spec; decide; (simp only [go_sem, g1]; rfl); (simp only [go_sem, g1]; rfl); (simp only [go_sem, g1]; rfl); (simp only [go_sem, g1]; rfl); trivial; apply e_pick; decide; (simp only [go_sem, g1]; rfl); (simp only [go_sem, g1]; rfl); (simp only [go_sem, g1]; rfl); (simp only [go_sem, g1]; rfl); (simp only [go_sem, g1]; rfl); (simp only [go_sem, g1]; rfl); trivial; trivial; trivial; apply e_nil; apply t_nil; simp only [AThen, ABlock]; refine hK _ _ ?_; clear hK K)
    refine cond_split (by simp only [go_sem]; try rfl) (fun he => ?_) (fun he => ?_)
    · simp at he
    (apply AWp_skip; simp only [AThen, ABlock]; refine hK _ _ ?_; clear hK K; refine AWp_seq_k (fun K hK => ?_); apply s_region; (iterate 2 (apply s_q; decide; rfl; (simp only [go_sem, g1]; rfl))); apply s_call; decide; (simp only [go_sem, g1]; rfl); (simp only [go_sem, g1]; rfl); apply h1; apply s_q; decide; rfl; (simp only [go_sem, g1]; rfl); apply s_nil; simp only [AThen, ABlock]; refine hK _ _ ?_; clear hK K; refine AWp_seq_k (fun K hK => ?_); apply s_region; apply s_q; decide; rfl; (simp only [go_sem, g1]; rfl); apply s_nil; simp only [AThen, ABlock]; refine hK _ _ ?_; clear hK K; apply AWp_block)
    have hll := lineA_len (p := p) (i := z)
    refine AWp_loop_s (σ := Nat) [1, 2, 5, 6, 7] (fun k => [.sl t (l.map intCells), ptrTo q, .v (.int .i64 z), .sl false ((lineA p z).map intCells), .v (.int .i64 ((k + 1 : Nat) : Int))]) (fun _ => M) (fun k => (lineA p z).length - k) (fun k => k ≤ (lineA p z).length) 0 (Nat.zero_le _) rfl rfl (fun k hk => ?_)
    simp only [List.zip_cons_cons, List.zip_nil_right]
    ((iterate 2 (refine AWp_seq_k (fun K hK => ?_))); apply s_region; (iterate 4 (apply s_q; decide; rfl; (simp only [go_sem]; rfl))); apply s_nil; simp only [AThen, ABlock]; refine hK _ _ ?_; clear hK K)
    refine cond_split (by simp only [go_sem]; try rfl) (fun hg => ?_) (fun hg => ?_)
    · have hkl : k + 1 < (lineA p z).length := by simp at hg; omega
      obtain ⟨x, hx⟩ := gete (l := lineA p z) (i := k) (by omega)
      obtain ⟨y, hy⟩ := gete hkl
      have hgx := int_at hx
      have hgy := int_at hy
      have hxy := lineA_down hx hy
      have hsub : IntKind.i64.wrap (((k + 1 : Nat) : Int) - 1) = (k : Nat) := by rw [wrap64 (by omega)]; omega
      (apply AWp_skip; simp only [AThen, ABlock]; refine hK _ _ ?_; clear hK K; refine AWp_seq_k (fun K hK => ?_); apply AWp_block; refine AWp_seq_k (fun K hK => ?_))
      apply AWp_drawA [0, 1, 2, 3, 4, 5, 6, 7, 8, 9, 10, 11, 12, 13, 14, 15, 16] [] 0 (by exact mixed); kernel_rfl; (simp only [go_sem]; rfl); (simp only [go_sem]; rfl)
      ((iterate 11 (apply e_q; decide; (simp only [go_sem, hgx, hgy, hsub]; rfl))); (iterate 2 (apply e_spec; decide; (simp only [go_sem, hgx, hgy, hsub]; rfl); (simp only [go_sem, hgx, hgy, hsub]; rfl); (simp only [go_sem, hgx, hgy, hsub]; rfl); (simp only [go_sem, hgx, hgy, hsub]; rfl); trivial)); (iterate 3 (apply e_spec; decide; (simp only [go_sem, hgx, hgy, hsub]; rfl); (simp only [go_sem, hgx, hgy, hsub]; rfl); (simp only [go_sem, hgx, hgy, hsub]; rfl); (simp only [go_sem, hgx, hgy, hsub]; rfl); simp [condsOk])); apply e_pick; decide; (simp only [go_sem, hgx, hgy, hsub]; rfl); (simp only [go_sem, hgx, hgy, hsub]; rfl); (simp only [go_sem, hgx, hgy, hsub]; rfl); (simp only [go_sem, hgx, hgy, hsub]; rfl); (simp only [go_sem, hgx, hgy, hsub]; rfl); (simp only [go_sem, hgx, hgy, hsub]; rfl); trivial; trivial; simp [condsOk]; apply e_nil; apply t_nil; simp only [AThen, ABlock]; refine hK _ _ ?_; clear hK K)
      refine cond_split (by simp only [go_sem]; try rfl) (fun hb2 => ?_) (fun hb2 => ?_)
      · exfalso
        simp at hb2
        omega
      (apply AWp_skip; simp only [AThen, ABlock]; refine hK _ _ ?_; clear hK K; apply s_region; (iterate 3 (apply s_q; decide; rfl; (simp only [go_sem]; rfl))); apply s_nil; simp only [AThen, ABlock])
      refine ⟨k + 1, by omega, by omega, ?_, by trivial⟩
      simp only [getAll, List.map_cons, List.map_nil, AFr.get, reduceIte, Nat.reduceEqDiff]
      rw [wrapS hkl (by omega)]
    · (apply AWp_exit; simp only [AThen, ABlock, reduceIte, Nat.reduceEqDiff]; clear hK K; refine hK _ _ ?_; clear hK K; apply s_region; (iterate 3 (apply s_q; decide; rfl; (simp only [go_sem]; rfl))); apply s_nil; simp only [AThen, ABlock])
      refine ⟨i + 1, by omega, by omega, ?_, by trivial⟩
      simp only [getAll, List.map_cons, List.map_nil, AFr.get, reduceIte, Nat.reduceEqDiff]
      rw [hz, wrapM hlt (by omega)]
  · (apply AWp_exit; simp only [AThen, ABlock, reduceIte, Nat.reduceEqDiff]; clear hK K; refine hK _ _ ?_; clear hK K; refine AWp_seq_k (fun K hK => ?_); apply s_region; apply s_call; decide; (simp only [go_sem]; rfl); (simp only [go_sem]; rfl); apply awake_c; apply s_q; decide; rfl; (simp only [go_sem]; rfl); apply s_nil; simp only [AThen, ABlock]; refine hK _ _ ?_; clear hK K; apply AWp_ret)
    exact ⟨H, hE, h⟩
end Go.Proofs.YtcpfgjfiacfmoaaGreatDoor
