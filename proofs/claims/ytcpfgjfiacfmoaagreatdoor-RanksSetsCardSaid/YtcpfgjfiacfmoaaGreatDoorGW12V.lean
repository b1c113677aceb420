/-
  The law about sets: a row turned, each place twice. Contract.
-/
import Derived.Test.YtcpfgjfiacfmoaaGreatDoorGPart9
set_option linter.unusedSimpArgs false
set_option linter.unusedVariables false
set_option maxRecDepth 100000
namespace Go.Proofs.YtcpfgjfiacfmoaaGreatDoor
open Go Go.AL
attribute [local irreducible] AOps AWp SOps AE AT ACall AApp

def dbl (l : List Int) : List Int := l.flatMap fun x => [x, x]
theorem dbl_len (l : List Int) : (dbl l).length = 2 * l.length := by
  induction l with
  | nil => rfl
  | cons a l ih => simp only [dbl, List.flatMap_cons, List.length_append, List.length_cons, List.length_nil] at ih ⊢; omega
theorem dbl_mem {l : List Int} {x : Int} : x ∈ dbl l ↔ x ∈ l := by simp [dbl]
theorem dbl_succ {l : List Int} {j : Nat} {x : Int} (h : l[j]? = some x) : dbl (l.take (j + 1)) = dbl (l.take j) ++ [x, x] := by
  rw [take_succ h, dbl, List.flatMap_append]
  rfl
theorem setL_same {n : Nat} {l m : List Int} (h : ∀ x, x ∈ l ↔ x ∈ m) : setL n l = setL n m := by
  rw [setL, setL]
  congr 2
  funext i
  simp [h]
theorem powA_same {p : Pa} {l m : List Int} (h : ∀ x, x ∈ l ↔ x ∈ m) : powA p l = powA p m := by rw [powA, powA, setL_same h]
theorem byLine_same {p : Pa} {l m : List Int} {power : Int} (h : ∀ x, x ∈ l ↔ x ∈ m) : ByLine p l power = ByLine p m power := by
  funext s
  rw [ByLine, ByLine, setL_same h]
theorem byLA_same {p : Pa} {l m : List Int} {power : Int} (h : ∀ x, x ∈ l ↔ x ∈ m) : byLA p l power = byLA p m power := by
  unfold byLA
  rw [byLine_same h]
set_option maxHeartbeats 2000000 in
theorem law_sets (p : Pa) (hw : p.Wide) (t : Bool) (l : List Int) (hl : l.length ≤ 4611686018427387904) (power : Int) (H : AHeap) (K : AV → AHeap → Prop) (h : K (.v (.bool true)) H) : ACall X 10 [.agg p.cells, .sl t (l.map intCells), .v (.int .i64 power)] H K := by
  have hF : ∀ (H : AHeap) (K : AV → AHeap → Prop), (∀ b, (b = true → p.Few) → K (.v (.bool b)) H) → ACall X 15 [.agg (pCells p)] H K := fun H K hk => few12_c p hw H K hk
  refine ACall.drop ?_
  rw [show p.cells = pCells p from rfl]
  refine ACall_intro Tryz.func10 rfl (by kernel_rfl) (by rw [Tryz.ntmps10]; simp) ?_; rw [Tryz.ntmps10]; simp only [frame0, Nat.reduceAdd]
  refine AWp_seq_k (fun K hK => ?_); apply s_region
  apply s_box; decide; exact (by simp only [go_sem]; try rfl); exact (by simp only [go_sem]; try rfl); intro q hq
  generalize hgenq : AHeap.put q _ H = M; obtain ⟨g1, hextq⟩ := gen_ex hgenq hq; have hE := hextq; clear hextq hgenq
  (apply s_q; decide; rfl; (simp only [go_sem, g1]; rfl); apply s_nil; simp only [AThen, ABlock]; refine hK _ _ ?_; clear hK K; (iterate 2 (refine AWp_seq_k (fun K hK => ?_))); apply s_region; apply s_q; decide; rfl; (simp only [go_sem, g1]; rfl); apply s_call; decide; (simp only [go_sem, g1]; rfl); (simp only [go_sem, g1]; rfl); apply hF; intro b hb; (iterate 2 (apply s_q; decide; rfl; (simp only [go_sem, g1]; rfl))); apply s_spec; decide; rfl; rfl; (simp only [go_sem, g1]; rfl); (simp only [go_sem, g1]; rfl); (simp only [go_sem, g1]; rfl); (simp only [go_sem, g1]; rfl); trivial; (iterate 2 (apply s_spec; decide; rfl; rfl; (simp only [go_sem, g1]; rfl); (simp only [go_sem, g1]; rfl); (simp only [go_sem, g1]; rfl); (simp only [go_sem, g1]; rfl); simp [condsOk])); apply s_pick; decide; (simp only [go_sem, g1]; rfl); (simp only [go_sem, g1]; rfl); (simp only [go_sem, g1]; rfl); (simp only [go_sem, g1]; rfl); (simp only [go_sem, g1]; rfl); (simp only [go_sem, g1]; rfl); trivial; trivial; simp [condsOk]; apply s_nil; simp only [AThen, ABlock]; refine hK _ _ ?_; clear hK K)
  refine cond_split (by simp only [go_sem]; try rfl) (fun hc => ?_) (fun hc => ?_)
  · (refine AWp_seq_k (fun K hK => ?_); apply s_region; apply s_q; decide; rfl; (simp only [go_sem]; rfl); apply s_nil; simp only [AThen, ABlock]; refine hK _ _ ?_; clear hK K; apply AWp_ret; simp only [AThen, ABlock]; apply end_ret; rfl; simp only [AFr.get, reduceIte, Nat.reduceEqDiff])
    exact ⟨H, hE, h⟩
  have hfl : p.Few ∧ l.length ≤ 50 := by cases b <;> simp at hc hb <;> exact ⟨hb, by omega⟩
  obtain ⟨hf, hl50⟩ := hfl
  have hev := hf.ev
  obtain ⟨m, hm⟩ : ∃ m, m = dbl l.reverse := ⟨_, rfl⟩
  have hml : m.length = 2 * l.length := by rw [hm, dbl_len, List.length_reverse]
  have hmm : ∀ x, x ∈ l ↔ x ∈ m := fun x => by rw [hm, dbl_mem, List.mem_reverse]
  have h1 : ∀ (H : AHeap) (K : AV → AHeap → Prop), K (.sl false ((powA p l).map intCells)) H → ACall X 19 [.agg (pCells p), .sl t (l.map intCells)] H K := fun H K hk => byPower_c p hw hf.sml (by omega) t l (by omega) H K hk
  have h2 : ∀ (tm : Bool) (H : AHeap) (K : AV → AHeap → Prop), K (.sl false ((powA p l).map intCells)) H → ACall X 19 [.agg (pCells p), .sl tm (m.map intCells)] H K := fun tm H K hk => byPower_c p hw hf.sml (by omega) tm m (by omega) H K (by rw [← powA_same hmm]; exact hk)
  have h3 : ∀ (H : AHeap) (K : AV → AHeap → Prop), K (.sl false ((byLA p l power).map intCells)) H → ACall X 30 [.agg (pCells p), .sl t (l.map intCells), .v (.int .i64 power)] H K := fun H K hk => byLine_c p hw (by omega) t l (by omega) power H K (fun s hs => by rw [byLA_eq hs]; exact hk)
  have h4 : ∀ (tm : Bool) (H : AHeap) (K : AV → AHeap → Prop), K (.sl false ((byLA p l power).map intCells)) H → ACall X 30 [.agg (pCells p), .sl tm (m.map intCells), .v (.int .i64 power)] H K := fun tm H K hk => byLine_c p hw (by omega) tm m (by omega) power H K (fun s hs => by rw [byLA_eq hs, ← byLA_same hmm]; exact hk)
  have hpl := powA_short p l hev
  have hbl : (byLA p l power).length ≤ 25 := byLA_short hev
  have hS1 : ∀ (H : AHeap) (K : AV → AHeap → Prop), K (.v (.bool true)) H → ACall X 18 [.sl false ((powA p l).map intCells), .sl false ((powA p l).map intCells)] H K := fun H K hk => same12_c false false _ _ (by omega) H K (by simpa using hk)
  have hS2 : ∀ (H : AHeap) (K : AV → AHeap → Prop), K (.v (.bool true)) H → ACall X 18 [.sl false ((byLA p l power).map intCells), .sl false ((byLA p l power).map intCells)] H K := fun H K hk => same12_c false false _ _ (by omega) H K (by simpa using hk)
  (apply AWp_skip; simp only [AThen, ABlock]; refine hK _ _ ?_; clear hK K; refine AWp_seq_k (fun K hK => ?_); apply s_region; apply s_q; decide; rfl; (simp only [go_sem]; rfl); apply s_nil; simp only [AThen, ABlock]; refine hK _ _ ?_; clear hK K; (iterate 2 (refine AWp_seq_k (fun K hK => ?_))); apply s_region; (iterate 4 (apply s_q; decide; rfl; (simp only [go_sem]; rfl))); apply s_nil; simp only [AThen, ABlock]; refine hK _ _ ?_; clear hK K; apply AWp_block)
  have hw1 : IntKind.i64.wrap ((l.length : Int) - 1) = (l.length : Int) - 1 := wrap64 (by omega)
  rw [hw1]
  refine AWp_loop_s (σ := Nat × AV × AHeap) [1, 2, 3, 7, 8] (fun s => [.sl t (l.map intCells), .v (.int .i64 power), ptrTo q, s.2.1, .v (.int .i64 ((l.length : Int) - 1 - (s.1 : Int)))]) (fun s => s.2.2) (fun s => l.length - s.1)
    (fun s => s.1 ≤ l.length ∧ Ext M s.2.2 ∧ RowAt 3 1 M s.2.2 ((dbl (l.reverse.take s.1)).map intCells) s.2.1)
    (0, .sl true [], M) ⟨Nat.zero_le _, Ext.refl _, RowAt.nil _ _ _ _⟩ (by simp only [getAll, List.map_cons, List.map_nil, AFr.get, reduceIte, Nat.reduceEqDiff, Int.natCast_zero, Int.sub_zero]) rfl (fun s hs => ?_)
  obtain ⟨j, o, L⟩ := s
  obtain ⟨hj, hEL, hO⟩ := hs
  simp only [List.zip_cons_cons, List.zip_nil_right] at hj hEL hO ⊢
  have g1L := hEL _ _ g1
  ((iterate 2 (refine AWp_seq_k (fun K hK => ?_))); apply s_region; (iterate 2 (apply s_q; decide; rfl; (simp only [go_sem]; rfl))); apply s_nil; simp only [AThen, ABlock]; refine hK _ _ ?_; clear hK K)
  refine cond_split (by simp only [go_sem]; try rfl) (fun hd => ?_) (fun hd => ?_)
  · have hlt : j < l.length := by simp at hd; omega
    obtain ⟨n, hn⟩ : ∃ n : Nat, n = l.length - 1 - j := ⟨_, rfl⟩
    have hnn : (l.length : Int) - 1 - j = (n : Int) := by omega
    rw [hnn]
    obtain ⟨x, hx⟩ := gete (l := l) (i := n) (by omega)
    have hgx := int_at hx
    have hxr : l.reverse[j]? = some x := by rw [List.getElem?_reverse (by omega), ← hn]; exact hx
    have hdl := dbl_len (l.reverse.take j)
    rw [List.length_take] at hdl
    (apply AWp_skip; simp only [AThen, ABlock]; refine hK _ _ ?_; clear hK K; refine AWp_seq_k (fun K hK => ?_); apply AWp_block)
    apply AWp_drawA [0, 1, 2, 3, 4, 5, 6, 7, 8, 9] [10, 11] 0 (by exact mixed); kernel_rfl; (simp only [go_sem]; rfl); (simp only [go_sem]; rfl)
    ((iterate 9 (apply e_q; decide; (simp only [go_sem, hgx]; rfl))); apply e_lit; decide; exact el_38; (simp only [go_sem, hgx]; rfl); (simp only [go_sem, hgx]; rfl); decide; apply e_nil; apply t_append; decide; (simp only [go_sem, hgx]; rfl); (simp only [go_sem, hgx]; rfl); apply AApp_at el_38 hEL hO (l := dbl (l.reverse.take j)) (m := [x, x]) (g := intCells) rfl rfl tk_38 int_one (by simp; omega) (by simp; omega); intro o2 L2 b1 b2 b3; refine ⟨by (intro h; exact absurd h (by decide)), ?_⟩; apply t_q; decide; (simp only [go_sem, hgx]; rfl); (intro h; exact absurd h (by decide)); apply t_nil; simp only [AThen, ABlock]; refine hK _ _ ?_; clear hK K; apply s_region; (iterate 3 (apply s_q; decide; rfl; (simp only [go_sem, hgx]; rfl))); apply s_nil; simp only [AThen, ABlock])
    refine ⟨(j + 1, o2, L2), by simp only; omega, ⟨by simp only; omega, b2, ?_⟩, ?_, by trivial⟩
    · simp only
      rw [dbl_succ hxr]
      exact b1
    · simp only [getAll, List.map_cons, List.map_nil, AFr.get, reduceIte, Nat.reduceEqDiff]
      rw [wrap64 (by omega)]
      have : (n : Int) - 1 = (l.length : Int) - 1 - ((j + 1 : Nat) : Int) := by omega
      rw [this]
  · have hge : j = l.length := by simp at hd; omega
    rw [List.take_of_length_le (by rw [List.length_reverse]; omega), ← hm] at hO
    (apply AWp_exit; simp only [AThen, ABlock, reduceIte, Nat.reduceEqDiff]; clear hK K; refine hK _ _ ?_; clear hK K; refine AWp_seq_k (fun K hK => ?_))
    refine AWp_cut [7, 1, 2, 3] (vs := [o, .sl t (l.map intCells), .v (.int .i64 power), ptrTo q]) rfl ?_
    simp only [List.zip_cons_cons, List.zip_nil_right]
    refine AWp_snapAt hO (fun b hb => by simp only [AFr.snap, AV.snap, snap_ints, snap_ptr]) (fun tm L1 hk1 hE1 => ?_) hEL
    have g1k := hk1 _ _ g1L (fun _ _ _ h => by cases h)
    skip
    apply AWp_drawA [0, 1, 2, 3, 4, 5, 6, 7, 8, 9, 10, 11, 12, 13, 14, 15, 16, 17, 18, 19, 20, 21] [] 0 (by exact mixed); kernel_rfl; (simp only [go_sem]; rfl); (simp only [go_sem]; rfl)
    ((iterate 2 (apply e_q; decide; (simp only [go_sem, g1k]; rfl))); apply e_call; decide; (simp only [go_sem, g1k]; rfl); (simp only [go_sem, g1k]; rfl); (apply h1; exact ⟨rfl, rfl⟩); (iterate 2 (apply e_q; decide; (simp only [go_sem, g1k]; rfl))); apply e_call; decide; (simp only [go_sem, g1k]; rfl); (simp only [go_sem, g1k]; rfl); (apply h2 tm; exact ⟨rfl, rfl⟩); apply e_call; decide; (simp only [go_sem, g1k]; rfl); (simp only [go_sem, g1k]; rfl); (apply hS1; exact ⟨rfl, rfl⟩); apply e_q; decide; (simp only [go_sem, g1k]; rfl); (iterate 3 (apply e_spec; decide; (simp only [go_sem, g1k]; rfl); (simp only [go_sem, g1k]; rfl); (simp only [go_sem, g1k]; rfl); (simp only [go_sem, g1k]; rfl); trivial)); apply e_gpure; decide; (simp only [go_sem, g1k]; rfl); (simp only [go_sem, g1k]; rfl); (simp only [go_sem, g1k]; rfl); trivial; (simp only [go_sem, g1k]; rfl); (simp only [go_sem, g1k]; rfl); (apply h3; exact ⟨rfl, rfl⟩); (iterate 3 (apply e_spec; decide; (simp only [go_sem, g1k]; rfl); (simp only [go_sem, g1k]; rfl); (simp only [go_sem, g1k]; rfl); (simp only [go_sem, g1k]; rfl); trivial)); apply e_gpure; decide; (simp only [go_sem, g1k]; rfl); (simp only [go_sem, g1k]; rfl); (simp only [go_sem, g1k]; rfl); trivial; (simp only [go_sem, g1k]; rfl); (simp only [go_sem, g1k]; rfl); (apply h4 tm; exact ⟨rfl, rfl⟩); apply e_gpure; decide; (simp only [go_sem, g1k]; rfl); (simp only [go_sem, g1k]; rfl); (simp only [go_sem, g1k]; rfl); trivial; (simp only [go_sem, g1k]; rfl); (simp only [go_sem, g1k]; rfl); (apply hS2; exact ⟨rfl, rfl⟩); apply e_pick; decide; (simp only [go_sem, g1k]; rfl); (simp only [go_sem, g1k]; rfl); (simp only [go_sem, g1k]; rfl); (simp only [go_sem, g1k]; rfl); (simp only [go_sem, g1k]; rfl); (simp only [go_sem, g1k]; rfl); trivial; trivial; trivial; apply e_q; decide; (simp only [go_sem, g1k]; rfl); apply e_gpure; decide; (simp only [go_sem, g1k]; rfl); (simp only [go_sem, g1k]; rfl); (simp only [go_sem, g1k]; rfl); trivial; (simp only [go_sem, g1k]; rfl); (simp only [go_sem, g1k]; rfl); (apply awake_c; exact ⟨rfl, rfl⟩); apply e_pick; decide; (simp only [go_sem, g1k]; rfl); (simp only [go_sem, g1k]; rfl); (simp only [go_sem, g1k]; rfl); (simp only [go_sem, g1k]; rfl); (simp only [go_sem, g1k]; rfl); (simp only [go_sem, g1k]; rfl); trivial; trivial; trivial; apply e_q; decide; (simp only [go_sem, g1k]; rfl); apply e_nil; apply t_nil; simp only [AThen, ABlock]; refine hK _ _ ?_; clear hK K; apply AWp_ret)
    exact ⟨H, Ext.trans hE hE1, h⟩
end Go.Proofs.YtcpfgjfiacfmoaaGreatDoor
