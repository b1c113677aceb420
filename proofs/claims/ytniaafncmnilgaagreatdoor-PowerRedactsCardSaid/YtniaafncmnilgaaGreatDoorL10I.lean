/-
  PowerRedacts: the document's Fits and Redact at an event of levels, and the law. Contracts.
-/
import Derived.Test.YtniaafncmnilgaaGreatDoorPV
import Derived.Test.YtniaafncmnilgaaGreatDoorR7
import Derived.Test.YtniaafncmnilgaaGreatDoorL10H
set_option linter.unusedSimpArgs false
set_option linter.unusedVariables false
set_option maxRecDepth 100000
namespace Go.Proofs.YtniaafncmnilgaaGreatDoor
open Go Go.AL
attribute [local irreducible] AOps AWp SOps AE AT ACall AApp

def deepJ (j : J) : J := .mk 5 0 [] [[99, 111, 110, 116, 101, 110, 116]] [j]
theorem deep_c (j : J) (H : AHeap) (Kc : AV → AHeap → Prop) (h : Kc (.agg (deepJ j).cells) H) : ACall X 31 [.agg j.cells] H Kc := by
  refine ACall.drop (ACall.loose ?_)
  rw [J.cells_eq]
  refine ACall_intro Tryz.func31 rfl (by kernel_rfl) (by rw [Tryz.ntmps31]; simp) ?_; rw [Tryz.ntmps31]; simp only [frame0, Nat.reduceAdd]
  refine AWp_seq_k (fun K hK => ?_); apply s_region
  apply s_box; decide; exact (by simp only [go_sem]; try rfl); exact (by simp only [go_sem]; try rfl); intro p hp
  apply s_alloc; decide; exact zc_json; intro r hr
  apply s_nil; simp only [AThen, ABlock]; refine hK _ _ ?_; clear hK K
  generalize hgenq : AHeap.put p _ H = M1 at hr ⊢; obtain ⟨g1, hextq⟩ := gen_ex hgenq hp; have hE := hextq; clear hextq hgenq
  have hHr : H.get r = none := none_of_ext hE hr
  generalize hgenq : AHeap.put r _ M1 = M; obtain ⟨g2, hextq⟩ := gen_ex hgenq hr; have g1 := hextq _ _ g1; have hE := Ext.trans hE hextq; clear hextq hgenq
  (refine AWp_seq_k (fun K hK => ?_); apply s_region; apply s_lit; decide; exact el_22; (simp only [go_sem, g1, g2]; rfl); (simp only [go_sem, g1, g2]; rfl); decide; apply s_q; decide; rfl; (simp only [go_sem, g1, g2]; rfl); apply s_lit; decide; exact el_23; (simp only [go_sem, g1, g2]; rfl); (simp only [go_sem, g1, g2]; rfl); decide; apply s_q; decide; rfl; (simp only [go_sem, g1, g2]; rfl); apply s_store; (simp only [go_sem, g1, g2]; rfl); (simp only [go_sem, g1, g2]; rfl); (simp only [go_sem, g1, g2]; rfl); apply s_nil; simp only [AThen, ABlock]; refine hK _ _ ?_; clear hK K; apply AWp_ret)
  try simp only [AThen, ABlock]
  refine end_ret (av := .agg [.v (.int .i64 5), .v (.int .i64 0), .s [], .sl true [[.s [99, 111, 110, 116, 101, 110, 116]]], .sl true [[.v (.int .i64 j.kind), .v (.int .i64 j.int), .s j.text, .sl false (j.keys.map strCells), .sl false (j.list.map J.cells)]]]) (by show resAV X.P _ _ [.cell 2 25] = _; simp only [go_sem]; try rfl) ⟨H, hE.over hHr, ?_⟩
  have e : AV.loosen (.agg [.v (.int .i64 5), .v (.int .i64 0), .s [], .sl true [[.s [99, 111, 110, 116, 101, 110, 116]]], .sl true [[.v (.int .i64 j.kind), .v (.int .i64 j.int), .s j.text, .sl false (j.keys.map strCells), .sl false (j.list.map J.cells)]]]) = .agg (deepJ j).cells := by
    simp only [AV.loosen, AV.loosens, AV.loosenss, loosen_strs, J.loosenss, deepJ, J.cells, J.cellss, J.cells_eq j, List.map_cons, List.map_nil, strCells]
  rw [e]; exact h
theorem events0_c (n : Nat) (hn : n ≤ 100) (H : AHeap) (Kc : AV → AHeap → Prop) (h : Kc (.v (.bool true)) H) : ACall X 32 [.sl true [], .v (.int .i64 ((n : Nat) : Int))] H Kc := by
  refine ACall_intro Tryz.func32 rfl (by kernel_rfl) (by rw [Tryz.ntmps32]; simp) ?_; rw [Tryz.ntmps32]; simp only [frame0, Nat.reduceAdd]
  (refine AWp_seq_k (fun K hK => ?_); apply s_region; apply s_q; decide; rfl; (simp only [go_sem]; rfl); apply s_nil; simp only [AThen, ABlock]; refine hK _ _ ?_; clear hK K; (iterate 2 (refine AWp_seq_k (fun K hK => ?_))); apply s_region; (iterate 4 (apply s_q; decide; rfl; (simp only [go_sem]; rfl))); apply s_nil; simp only [AThen, ABlock]; refine hK _ _ ?_; clear hK K)
  refine cond_split (by simp only [go_sem]; try rfl) (fun hc => ?_) (fun hc => ?_)
  · simp at hc; omega
  (apply AWp_skip; simp only [AThen, ABlock]; refine hK _ _ ?_; clear hK K; (iterate 2 (refine AWp_seq_k (fun K hK => ?_))); apply s_region; apply s_q; decide; rfl; (simp only [go_sem]; rfl); apply s_nil; simp only [AThen, ABlock]; refine hK _ _ ?_; clear hK K; apply AWp_block)
  refine AWp_loop_s (σ := Unit) [0, 5] (fun _ => [.sl true [], .v (.int .i64 0)]) (fun _ => H) (fun _ => 0) (fun _ => True) () trivial rfl rfl (fun s hs => ?_)
  simp only [List.zip_cons_cons, List.zip_nil_right]
  ((iterate 2 (refine AWp_seq_k (fun K hK => ?_))); apply s_region; (iterate 4 (apply s_q; decide; rfl; (simp only [go_sem]; rfl))); apply s_nil; simp only [AThen, ABlock]; refine hK _ _ ?_; clear hK K)
  refine cond_split (by simp only [go_sem]; try rfl) (fun hd => ?_) (fun hd => ?_)
  · simp at hd
  (apply AWp_exit; simp only [AThen, ABlock, reduceIte, Nat.reduceEqDiff]; clear hK K; refine hK _ _ ?_; clear hK K; refine AWp_seq_k (fun K hK => ?_); apply s_region; apply s_q; decide; rfl; (simp only [go_sem]; rfl); apply s_nil; simp only [AThen, ABlock]; refine hK _ _ ?_; clear hK K; apply AWp_ret)
  exact h
theorem sigs0_c (H : AHeap) (Kc : AV → AHeap → Prop) (h : Kc (.v (.bool true)) H) : ACall X 33 [.sl true []] H Kc := by
  refine ACall_intro Tryz.func33 rfl (by kernel_rfl) (by rw [Tryz.ntmps33]; simp) ?_; rw [Tryz.ntmps33]; simp only [frame0, Nat.reduceAdd]
  (refine AWp_seq_k (fun K hK => ?_); apply s_region; apply s_q; decide; rfl; (simp only [go_sem]; rfl); apply s_nil; simp only [AThen, ABlock]; refine hK _ _ ?_; clear hK K; (iterate 2 (refine AWp_seq_k (fun K hK => ?_))); apply s_region; (iterate 3 (apply s_q; decide; rfl; (simp only [go_sem]; rfl))); apply s_nil; simp only [AThen, ABlock]; refine hK _ _ ?_; clear hK K)
  refine cond_split (by simp only [go_sem]; try rfl) (fun hc => ?_) (fun hc => ?_)
  · simp at hc
  (apply AWp_skip; simp only [AThen, ABlock]; refine hK _ _ ?_; clear hK K; (iterate 2 (refine AWp_seq_k (fun K hK => ?_))); apply s_region; apply s_q; decide; rfl; (simp only [go_sem]; rfl); apply s_nil; simp only [AThen, ABlock]; refine hK _ _ ?_; clear hK K; apply AWp_block)
  refine AWp_loop_s (σ := Unit) [0, 3] (fun _ => [.sl true [], .v (.int .i64 0)]) (fun _ => H) (fun _ => 0) (fun _ => True) () trivial rfl rfl (fun s hs => ?_)
  simp only [List.zip_cons_cons, List.zip_nil_right]
  ((iterate 2 (refine AWp_seq_k (fun K hK => ?_))); apply s_region; (iterate 4 (apply s_q; decide; rfl; (simp only [go_sem]; rfl))); apply s_nil; simp only [AThen, ABlock]; refine hK _ _ ?_; clear hK K)
  refine cond_split (by simp only [go_sem]; try rfl) (fun hd => ?_) (fun hd => ?_)
  · simp at hd
  (apply AWp_exit; simp only [AThen, ABlock, reduceIte, Nat.reduceEqDiff]; clear hK K; refine hK _ _ ?_; clear hK K; refine AWp_seq_k (fun K hK => ?_); apply s_region; apply s_q; decide; rfl; (simp only [go_sem]; rfl); apply s_nil; simp only [AThen, ABlock]; refine hK _ _ ?_; clear hK K; apply AWp_ret)
  exact h
abbrev powT : List UInt8 := [109, 46, 114, 111, 111, 109, 46, 112, 111, 119, 101, 114, 95, 108, 101, 118, 101, 108, 115]
abbrev evC (c : J) : List AV := [.s [33, 114, 58, 115], .s powT, .s [64, 97, 58, 115], .v (.bool true), .s [], .v (.int .i64 c.kind), .v (.int .i64 c.int), .s c.text, .sl false (c.keys.map strCells), .sl false (c.list.map J.cells), .sl true [], .sl true [], .v (.int .i64 0), .v (.int .i64 0), .s [], .sl true []]
abbrev evBox (c : J) : AObj := .box 37 (evC c)
def fitB (c : J) : Bool := decide (c.kind = 5) && goodB 12 c && goodB 12 (deepJ c)
theorem deep_fit {c : J} (hf : J.Fit c) : J.Fit (deepJ c) := by
  refine fit_eq.2 ⟨⟨by show 1 ≤ _; decide, by show 1 ≤ _; decide⟩, by show 0 ≤ _; decide, fun x hx => by obtain rfl := List.mem_singleton.1 hx; decide, ?_⟩
  intro x hx
  rw [deepJ] at hx
  obtain rfl := List.mem_singleton.1 hx
  exact hf
set_option maxHeartbeats 4000000 in
theorem fits_c (c : J) (hf : J.Fit c) (H : AHeap) (Kc : AV → AHeap → Prop) (h : Kc (.v (.bool (fitB c))) H) : ACall X 10 [.agg (evC c)] H Kc := by
  refine ACall.drop ?_
  have hRoom : ∀ (H : AHeap) (K : AV → AHeap → Prop), K (.tup [.s [114], .s [115], .v (.bool true)]) H → ACall X 27 [.s [33, 114, 58, 115]] H K := fun H K hk => rroom4_c _ (by decide) H K (by
    rw [show idParts [33] [33, 114, 58, 115] = .tup [.s [114], .s [115], .v (.bool true)] by kernel_rfl]; exact hk)
  have hTy : ∀ (H : AHeap) (K : AV → AHeap → Prop), K (.v (.bool true)) H → ACall X 28 [.s powT] H K := fun H K hk => rtype4_c _ (by decide) H K (by
    rw [show isType powT = true by kernel_rfl]; exact hk)
  have hUs : ∀ (H : AHeap) (K : AV → AHeap → Prop), K (.v (.bool true)) H → ACall X 29 [.s [64, 97, 58, 115]] H K := fun H K hk => risUser4_c _ (by decide) H K (show K (.v (.bool (isUserB [64, 97, 58, 115]))) H by
    rw [show isUserB [64, 97, 58, 115] = true by kernel_rfl]; exact hk)
  have hBad : ∀ (H : AHeap) (K : AV → AHeap → Prop), K (.v (.int .i64 (-1))) H → ACall X 30 [.s []] H K := fun H K hk => bad_c [] (by decide) H K (by
    rw [show badI [] = -1 by rfl]; exact hk)
  have hEv : ∀ (n : Int) (hn : n = 20 ∨ n = 10) (H : AHeap) (K : AV → AHeap → Prop), K (.v (.bool true)) H → ACall X 32 [.sl true [], .v (.int .i64 n)] H K := fun n hn H K hk => by
    rcases hn with rfl | rfl
    · exact events0_c 20 (by decide) H K hk
    · exact events0_c 10 (by decide) H K hk
  refine ACall_intro Tryz.func10 rfl (by kernel_rfl) (by rw [Tryz.ntmps10]; simp) ?_; rw [Tryz.ntmps10]; simp only [frame0, Nat.reduceAdd]
  refine AWp_seq_k (fun K hK => ?_); apply s_region
  apply s_box; decide; exact (by simp only [go_sem]; try rfl); exact (by simp only [go_sem]; try rfl); intro p hp
  (apply s_q; decide; rfl; (simp only [go_sem]; rfl); apply s_nil; simp only [AThen, ABlock]; refine hK _ _ ?_; clear hK K; refine AWp_seq_k (fun K hK => ?_); apply s_region; (iterate 2 (apply s_q; decide; rfl; (simp only [go_sem]; rfl))))
  generalize hgenq : AHeap.put p _ H = M; obtain ⟨g1, hextq⟩ := gen_ex hgenq hp; have hE := hextq; clear hextq hgenq
  (apply s_call; decide; (simp only [go_sem, g1]; rfl); (simp only [go_sem, g1]; rfl); apply hRoom; (iterate 7 (apply s_q; decide; rfl; (simp only [go_sem, g1]; rfl))); apply s_nil; simp only [AThen, ABlock]; refine hK _ _ ?_; clear hK K; (iterate 2 (refine AWp_seq_k (fun K hK => ?_))); apply s_region; (iterate 3 (apply s_q; decide; rfl; (simp only [go_sem, g1]; rfl))); (iterate 2 (apply s_spec; decide; rfl; rfl; (simp only [go_sem, g1]; rfl); (simp only [go_sem, g1]; rfl); (simp only [go_sem, g1]; rfl); (simp only [go_sem, g1]; rfl); trivial)); apply s_gpure; decide; (simp only [go_sem, g1]; rfl); (simp only [go_sem, g1]; rfl); (simp only [go_sem, g1]; rfl); trivial; (simp only [go_sem, g1]; rfl); (simp only [go_sem, g1]; rfl); (apply hTy; exact ⟨rfl, rfl⟩); apply s_spec; decide; rfl; rfl; (simp only [go_sem, g1]; rfl); (simp only [go_sem, g1]; rfl); (simp only [go_sem, g1]; rfl); (simp only [go_sem, g1]; rfl); trivial; apply s_pick; decide; (simp only [go_sem, g1]; rfl); (simp only [go_sem, g1]; rfl); (simp only [go_sem, g1]; rfl); (simp only [go_sem, g1]; rfl); (simp only [go_sem, g1]; rfl); (simp only [go_sem, g1]; rfl); trivial; trivial; trivial; apply s_q; decide; rfl; (simp only [go_sem, g1]; rfl); (iterate 2 (apply s_spec; decide; rfl; rfl; (simp only [go_sem, g1]; rfl); (simp only [go_sem, g1]; rfl); (simp only [go_sem, g1]; rfl); (simp only [go_sem, g1]; rfl); trivial)); apply s_gpure; decide; (simp only [go_sem, g1]; rfl); (simp only [go_sem, g1]; rfl); (simp only [go_sem, g1]; rfl); trivial; (simp only [go_sem, g1]; rfl); (simp only [go_sem, g1]; rfl); (apply hUs; exact ⟨rfl, rfl⟩); apply s_spec; decide; rfl; rfl; (simp only [go_sem, g1]; rfl); (simp only [go_sem, g1]; rfl); (simp only [go_sem, g1]; rfl); (simp only [go_sem, g1]; rfl); trivial; apply s_pick; decide; (simp only [go_sem, g1]; rfl); (simp only [go_sem, g1]; rfl); (simp only [go_sem, g1]; rfl); (simp only [go_sem, g1]; rfl); (simp only [go_sem, g1]; rfl); (simp only [go_sem, g1]; rfl); trivial; trivial; trivial; apply s_nil; simp only [AThen, ABlock]; refine hK _ _ ?_; clear hK K)
  refine cond_split (by simp only [go_sem]; try rfl) (fun hc => ?_) (fun hc => ?_)
  · simp at hc
  clear hc
  (apply AWp_skip; simp only [AThen, ABlock]; refine hK _ _ ?_; clear hK K; (iterate 2 (refine AWp_seq_k (fun K hK => ?_))); apply s_region; (iterate 5 (apply s_q; decide; rfl; (simp only [go_sem, g1]; rfl))); (iterate 2 (apply s_spec; decide; rfl; rfl; (simp only [go_sem, g1]; rfl); (simp only [go_sem, g1]; rfl); (simp only [go_sem, g1]; rfl); (simp only [go_sem, g1]; rfl); trivial)); apply s_gpure; decide; (simp only [go_sem, g1]; rfl); (simp only [go_sem, g1]; rfl); (simp only [go_sem, g1]; rfl); trivial; (simp only [go_sem, g1]; rfl); (simp only [go_sem, g1]; rfl); (apply hBad; exact ⟨rfl, rfl⟩); apply s_spec; decide; rfl; rfl; (simp only [go_sem, g1]; rfl); (simp only [go_sem, g1]; rfl); (simp only [go_sem, g1]; rfl); (simp only [go_sem, g1]; rfl); trivial; apply s_pick; decide; (simp only [go_sem, g1]; rfl); (simp only [go_sem, g1]; rfl); (simp only [go_sem, g1]; rfl); (simp only [go_sem, g1]; rfl); (simp only [go_sem, g1]; rfl); (simp only [go_sem, g1]; rfl); trivial; trivial; trivial; apply s_q; decide; rfl; (simp only [go_sem, g1]; rfl); (iterate 7 (apply s_spec; decide; rfl; rfl; (simp only [go_sem, g1]; rfl); (simp only [go_sem, g1]; rfl); (simp only [go_sem, g1]; rfl); (simp only [go_sem, g1]; rfl); trivial)); apply s_pickg; decide; (simp only [go_sem, g1]; rfl); (simp only [go_sem, g1]; rfl); (simp only [go_sem, g1]; rfl); (simp only [go_sem, g1]; rfl); (simp only [go_sem, g1]; rfl); (simp only [go_sem, g1]; rfl); (simp only [go_sem, g1]; rfl); (simp only [go_sem, g1]; rfl); trivial; trivial; trivial; apply s_pick; decide; (simp only [go_sem, g1]; rfl); (simp only [go_sem, g1]; rfl); (simp only [go_sem, g1]; rfl); (simp only [go_sem, g1]; rfl); (simp only [go_sem, g1]; rfl); (simp only [go_sem, g1]; rfl); trivial; trivial; trivial; apply s_nil; simp only [AThen, ABlock]; refine hK _ _ ?_; clear hK K)
  refine cond_split (by simp only [go_sem]; try rfl) (fun hc => ?_) (fun hc => ?_)
  · simp at hc
  clear hc
  (apply AWp_skip; simp only [AThen, ABlock]; refine hK _ _ ?_; clear hK K; (iterate 2 (refine AWp_seq_k (fun K hK => ?_))); apply s_region; (iterate 5 (apply s_q; decide; rfl; (simp only [go_sem, g1]; rfl))); apply s_spec; decide; rfl; rfl; (simp only [go_sem, g1]; rfl); (simp only [go_sem, g1]; rfl); (simp only [go_sem, g1]; rfl); (simp only [go_sem, g1]; rfl); trivial; apply s_spec; decide; rfl; rfl; (simp only [go_sem, g1]; rfl); (simp only [go_sem, g1]; rfl); (simp only [go_sem, g1]; rfl); (simp only [go_sem, g1]; rfl); simp [condsOk]; apply s_gpure; decide; (simp only [go_sem, g1]; rfl); (simp only [go_sem, g1]; rfl); (simp only [go_sem, g1]; rfl); simp [condsOk]; (simp only [go_sem, g1]; rfl); (simp only [go_sem, g1]; rfl); (refine ACall.args_eq (bs := [.agg c.cells]) ?_ ?_; (focus (rw [J.cells_eq c]; done)); apply rGood_c c _ _ hf; exact ⟨rfl, rfl⟩); apply s_spec; decide; rfl; rfl; (simp only [go_sem, g1]; rfl); (simp only [go_sem, g1]; rfl); (simp only [go_sem, g1]; rfl); (simp only [go_sem, g1]; rfl); simp [condsOk]; apply s_pick; decide; (simp only [go_sem, g1]; rfl); (simp only [go_sem, g1]; rfl); (simp only [go_sem, g1]; rfl); (simp only [go_sem, g1]; rfl); (simp only [go_sem, g1]; rfl); (simp only [go_sem, g1]; rfl); trivial; trivial; simp [condsOk]; apply s_q; decide; rfl; (simp only [go_sem, g1]; rfl); apply s_spec; decide; rfl; rfl; (simp only [go_sem, g1]; rfl); (simp only [go_sem, g1]; rfl); (simp only [go_sem, g1]; rfl); (simp only [go_sem, g1]; rfl); trivial; apply s_spec; decide; rfl; rfl; (simp only [go_sem, g1]; rfl); (simp only [go_sem, g1]; rfl); (simp only [go_sem, g1]; rfl); (simp only [go_sem, g1]; rfl); simp [condsOk]; apply s_gpure; decide; (simp only [go_sem, g1]; rfl); (simp only [go_sem, g1]; rfl); (simp only [go_sem, g1]; rfl); simp [condsOk]; (simp only [go_sem, g1]; rfl); (simp only [go_sem, g1]; rfl); (refine ACall.args_eq (bs := [.agg c.cells]) ?_ ?_; (focus (rw [J.cells_eq c]; done)); apply deep_c c; exact ⟨rfl, rfl⟩); apply s_gpure; decide; (simp only [go_sem, g1]; rfl); (simp only [go_sem, g1]; rfl); (simp only [go_sem, g1]; rfl); simp [condsOk]; (simp only [go_sem, g1]; rfl); (simp only [go_sem, g1]; rfl); (apply rGood_c (deepJ c) _ _ (deep_fit hf); exact ⟨rfl, rfl⟩); apply s_spec; decide; rfl; rfl; (simp only [go_sem, g1]; rfl); (simp only [go_sem, g1]; rfl); (simp only [go_sem, g1]; rfl); (simp only [go_sem, g1]; rfl); simp [condsOk]; apply s_pick; decide; (simp only [go_sem, g1]; rfl); (simp only [go_sem, g1]; rfl); (simp only [go_sem, g1]; rfl); (simp only [go_sem, g1]; rfl); (simp only [go_sem, g1]; rfl); (simp only [go_sem, g1]; rfl); trivial; trivial; simp [condsOk]; apply s_nil; simp only [AThen, ABlock]; refine hK _ _ ?_; clear hK K)
  refine cond_split (by simp only [go_sem]; try rfl) (fun hc => ?_) (fun hc => ?_)
  · rw [show fitB c = false by
      rw [fitB]
      by_cases h5 : c.kind = 5
      · cases h1 : goodB 12 c <;> cases h2 : goodB 12 (deepJ c) <;> simp [h5, h1, h2] at hc ⊢
      · simp [h5]] at h
    (refine AWp_seq_k (fun K hK => ?_); apply s_region; apply s_q; decide; rfl; (simp only [go_sem]; rfl); apply s_nil; simp only [AThen, ABlock]; refine hK _ _ ?_; clear hK K; apply AWp_ret; simp only [AThen, ABlock]; apply end_ret; rfl; simp only [AFr.get, reduceIte, Nat.reduceEqDiff])
    exact ⟨H, hE, h⟩
  rw [show fitB c = true by
    rw [fitB]
    by_cases h5 : c.kind = 5
    · cases h1 : goodB 12 c <;> cases h2 : goodB 12 (deepJ c) <;> simp [h5, h1, h2] at hc ⊢
    · simp [h5] at hc] at h
  (apply AWp_skip; simp only [AThen, ABlock]; refine hK _ _ ?_; clear hK K; (iterate 2 (refine AWp_seq_k (fun K hK => ?_))); apply s_region; (iterate 2 (apply s_q; decide; rfl; (simp only [go_sem, g1]; rfl))); apply s_call; decide; (simp only [go_sem, g1]; rfl); (simp only [go_sem, g1]; rfl); apply hEv _ (by decide); (iterate 2 (apply s_q; decide; rfl; (simp only [go_sem, g1]; rfl))); (iterate 2 (apply s_spec; decide; rfl; rfl; (simp only [go_sem, g1]; rfl); (simp only [go_sem, g1]; rfl); (simp only [go_sem, g1]; rfl); (simp only [go_sem, g1]; rfl); trivial)); apply s_gpure; decide; (simp only [go_sem, g1]; rfl); (simp only [go_sem, g1]; rfl); (simp only [go_sem, g1]; rfl); trivial; (simp only [go_sem, g1]; rfl); (simp only [go_sem, g1]; rfl); (apply hEv _ (by decide); exact ⟨rfl, rfl⟩); apply s_spec; decide; rfl; rfl; (simp only [go_sem, g1]; rfl); (simp only [go_sem, g1]; rfl); (simp only [go_sem, g1]; rfl); (simp only [go_sem, g1]; rfl); trivial; apply s_pick; decide; (simp only [go_sem, g1]; rfl); (simp only [go_sem, g1]; rfl); (simp only [go_sem, g1]; rfl); (simp only [go_sem, g1]; rfl); (simp only [go_sem, g1]; rfl); (simp only [go_sem, g1]; rfl); trivial; trivial; trivial; apply s_q; decide; rfl; (simp only [go_sem, g1]; rfl); (iterate 2 (apply s_spec; decide; rfl; rfl; (simp only [go_sem, g1]; rfl); (simp only [go_sem, g1]; rfl); (simp only [go_sem, g1]; rfl); (simp only [go_sem, g1]; rfl); trivial)); apply s_gpure; decide; (simp only [go_sem, g1]; rfl); (simp only [go_sem, g1]; rfl); (simp only [go_sem, g1]; rfl); trivial; (simp only [go_sem, g1]; rfl); (simp only [go_sem, g1]; rfl); (apply sigs0_c; exact ⟨rfl, rfl⟩); apply s_spec; decide; rfl; rfl; (simp only [go_sem, g1]; rfl); (simp only [go_sem, g1]; rfl); (simp only [go_sem, g1]; rfl); (simp only [go_sem, g1]; rfl); trivial; apply s_pick; decide; (simp only [go_sem, g1]; rfl); (simp only [go_sem, g1]; rfl); (simp only [go_sem, g1]; rfl); (simp only [go_sem, g1]; rfl); (simp only [go_sem, g1]; rfl); (simp only [go_sem, g1]; rfl); trivial; trivial; trivial; apply s_nil; simp only [AThen, ABlock]; refine hK _ _ ?_; clear hK K)
  refine cond_split (by simp only [go_sem]; try rfl) (fun hd => ?_) (fun hd => ?_)
  · simp at hd
  (apply AWp_skip; simp only [AThen, ABlock]; refine hK _ _ ?_; clear hK K; refine AWp_seq_k (fun K hK => ?_); apply s_region; (iterate 4 (apply s_q; decide; rfl; (simp only [go_sem, g1]; rfl))); (iterate 3 (apply s_spec; decide; rfl; rfl; (simp only [go_sem, g1]; rfl); (simp only [go_sem, g1]; rfl); (simp only [go_sem, g1]; rfl); (simp only [go_sem, g1]; rfl); trivial)); apply s_pick; decide; (simp only [go_sem, g1]; rfl); (simp only [go_sem, g1]; rfl); (simp only [go_sem, g1]; rfl); (simp only [go_sem, g1]; rfl); (simp only [go_sem, g1]; rfl); (simp only [go_sem, g1]; rfl); trivial; trivial; trivial; apply s_q; decide; rfl; (simp only [go_sem, g1]; rfl); (iterate 3 (apply s_spec; decide; rfl; rfl; (simp only [go_sem, g1]; rfl); (simp only [go_sem, g1]; rfl); (simp only [go_sem, g1]; rfl); (simp only [go_sem, g1]; rfl); trivial)); apply s_pick; decide; (simp only [go_sem, g1]; rfl); (simp only [go_sem, g1]; rfl); (simp only [go_sem, g1]; rfl); (simp only [go_sem, g1]; rfl); (simp only [go_sem, g1]; rfl); (simp only [go_sem, g1]; rfl); trivial; trivial; trivial; apply s_q; decide; rfl; (simp only [go_sem, g1]; rfl); (iterate 3 (apply s_spec; decide; rfl; rfl; (simp only [go_sem, g1]; rfl); (simp only [go_sem, g1]; rfl); (simp only [go_sem, g1]; rfl); (simp only [go_sem, g1]; rfl); trivial)); apply s_pick; decide; (simp only [go_sem, g1]; rfl); (simp only [go_sem, g1]; rfl); (simp only [go_sem, g1]; rfl); (simp only [go_sem, g1]; rfl); (simp only [go_sem, g1]; rfl); (simp only [go_sem, g1]; rfl); trivial; trivial; trivial; apply s_q; decide; rfl; (simp only [go_sem, g1]; rfl); (iterate 7 (apply s_spec; decide; rfl; rfl; (simp only [go_sem, g1]; rfl); (simp only [go_sem, g1]; rfl); (simp only [go_sem, g1]; rfl); (simp only [go_sem, g1]; rfl); trivial)); apply s_when (av := (.v (.bool false))); decide; (simp only [go_sem, g1]; rfl); (simp only [go_sem, g1]; rfl); (simp only [go_sem, g1]; rfl); trivial; (focus (intro hg; first | (cases hg; done) | (simp at hg; done))); apply s_pickg; decide; (simp only [go_sem, g1]; rfl); (simp only [go_sem, g1]; rfl); (simp only [go_sem, g1]; rfl); (simp only [go_sem, g1]; rfl); (simp only [go_sem, g1]; rfl); (simp only [go_sem, g1]; rfl); (simp only [go_sem, g1]; rfl); (simp only [go_sem, g1]; rfl); trivial; trivial; trivial; apply s_pick; decide; (simp only [go_sem, g1]; rfl); (simp only [go_sem, g1]; rfl); (simp only [go_sem, g1]; rfl); (simp only [go_sem, g1]; rfl); (simp only [go_sem, g1]; rfl); (simp only [go_sem, g1]; rfl); trivial; trivial; trivial; apply s_q; decide; rfl; (simp only [go_sem, g1]; rfl); apply s_nil; simp only [AThen, ABlock]; refine hK _ _ ?_; clear hK K; apply AWp_ret)
  refine end_ret (av := .v (.bool true)) (by show resAV X.P _ _ [.tmp 2] = _; simp [go_sem]) ⟨H, hE, h⟩
def nine : List (List UInt8) := [[98, 97, 110], [101, 118, 101, 110, 116, 115], [101, 118, 101, 110, 116, 115, 95, 100, 101, 102, 97, 117, 108, 116], [105, 110, 118, 105, 116, 101], [107, 105, 99, 107], [114, 101, 100, 97, 99, 116], [115, 116, 97, 116, 101, 95, 100, 101, 102, 97, 117, 108, 116], [117, 115, 101, 114, 115], [117, 115, 101, 114, 115, 95, 100, 101, 102, 97, 117, 108, 116]]
theorem keys_c (H : AHeap) (Kc : AV → AHeap → Prop) (h : Kc (.sl true (nine.map strCells)) H) : ACall X 35 [.s powT] H Kc := by
  refine ACall_intro Tryz.func35 rfl (by kernel_rfl) (by rw [Tryz.ntmps35]; simp) ?_; rw [Tryz.ntmps35]; simp only [frame0, Nat.reduceAdd]
  (refine AWp_seq_k (fun K hK => ?_); apply s_region; apply s_q; decide; rfl; (simp only [go_sem]; rfl); apply s_nil; simp only [AThen, ABlock]; refine hK _ _ ?_; clear hK K; (iterate 2 (refine AWp_seq_k (fun K hK => ?_))); apply s_region; apply s_q; decide; rfl; (simp only [go_sem]; rfl); apply s_nil; simp only [AThen, ABlock]; refine hK _ _ ?_; clear hK K; apply AWp_block; refine AWp_seq_k (fun K hK => ?_); apply s_region; (iterate 2 (apply s_q; decide; rfl; (simp only [go_sem]; rfl))); apply s_nil; simp only [AThen, ABlock]; refine hK _ _ ?_; clear hK K)
  refine cond_split (by simp only [go_sem]; try rfl) (fun hc => ?_) (fun hc => ?_)
  · simp at hc
  clear hc
  (refine AWp_seq_k (fun K hK => ?_); apply s_region; (iterate 2 (apply s_q; decide; rfl; (simp only [go_sem]; rfl))); apply s_nil; simp only [AThen, ABlock]; refine hK _ _ ?_; clear hK K)
  refine cond_split (by simp only [go_sem]; try rfl) (fun hc => ?_) (fun hc => ?_)
  · simp at hc
  clear hc
  (refine AWp_seq_k (fun K hK => ?_); apply s_region; (iterate 2 (apply s_q; decide; rfl; (simp only [go_sem]; rfl))); apply s_nil; simp only [AThen, ABlock]; refine hK _ _ ?_; clear hK K)
  refine cond_split (by simp only [go_sem]; try rfl) (fun hc => ?_) (fun hc => ?_)
  rotate_left
  · simp at hc
  (refine AWp_seq_k (fun K hK => ?_); apply s_region; apply s_lit; decide; exact el_22; (simp only [go_sem]; rfl); (simp only [go_sem]; rfl); decide; apply s_q; decide; rfl; (simp only [go_sem]; rfl); apply s_nil; simp only [AThen, ABlock]; refine hK _ _ ?_; clear hK K; apply AWp_ret; simp only [AThen, ABlock]; apply end_ret; rfl; simp only [AFr.get, reduceIte, Nat.reduceEqDiff])
  exact h
theorem loosen_js (tb : Bool) (j : J) : AV.loosen (.agg [.v (.int .i64 j.kind), .v (.int .i64 j.int), .s j.text, .sl tb (j.keys.map strCells), .sl tb (j.list.map J.cells)]) = .agg j.cells := by
  simp only [AV.loosen, AV.loosens, loosen_strs, J.loosenss, J.cells_eq j]
theorem jputT_c (tb : Bool) (j v : J) (k : List UInt8) (hj : j.keys.length ≤ 1000000 ∧ j.list.length ≤ 1000000) (H : AHeap) (Kc : AV → AHeap → Prop) (h : Kc (.agg (J.mk 5 0 [] (j.keys ++ [k]) (j.list ++ [v])).cells) H) :
    ACall X 37 [.agg [.v (.int .i64 j.kind), .v (.int .i64 j.int), .s j.text, .sl tb (j.keys.map strCells), .sl tb (j.list.map J.cells)], .s k, .agg v.cells] H Kc := by
  refine ACall.pre (bs := [.agg j.cells, .s k, .agg v.cells]) (K := H) ?_ (jput_c j v k hj _ _ h)
  have : AV.loosens [.agg [.v (.int .i64 j.kind), .v (.int .i64 j.int), .s j.text, .sl tb (j.keys.map strCells), .sl tb (j.list.map J.cells)], .s k, .agg v.cells] = [.agg j.cells, .s k, .agg v.cells] := by
    rw [AV.loosens, loosen_js, AV.loosens, AV.loosens, AV.loosens]
    simp only [AV.loosen, J.loosen]
  rw [← this]; exact Snap.loosen
theorem rOrderT_c (tb : Bool) (j : J) (hf : J.Fit j) (H : AHeap) (Kc : AV → AHeap → Prop) (h : Kc (.agg (if goodB 12 j then j.ord else J.mk 0 0 [] [] []).cells) H) :
    ACall X 38 [.agg [.v (.int .i64 j.kind), .v (.int .i64 j.int), .s j.text, .sl tb (j.keys.map strCells), .sl tb (j.list.map J.cells)]] H Kc := by
  refine ACall.pre (bs := [.agg j.cells]) (K := H) ?_ (rOrder_c j hf h)
  have : AV.loosens [.agg [.v (.int .i64 j.kind), .v (.int .i64 j.int), .s j.text, .sl tb (j.keys.map strCells), .sl tb (j.list.map J.cells)]] = [.agg j.cells] := by
    rw [AV.loosens, loosen_js, AV.loosens]
  rw [← this]; exact Snap.loosen
theorem nine_nodup : nine.Nodup := by decide
theorem nine_valid : ∀ k ∈ nine, Lib.validD k = true := by
  have : nine.all Lib.validD = true := by kernel_rfl
  exact List.all_eq_true.1 this
theorem zc_event : zC X.P 37 = some [.s [], .s [], .s [], .v (.bool false), .s [], .v (.int .i64 0), .v (.int .i64 0), .s [], .sl true [], .sl true [], .sl true [], .sl true [], .v (.int .i64 0), .v (.int .i64 0), .s [], .sl true []] := zc_37
abbrev evZ : AObj := .box 37 [.s [], .s [], .s [], .v (.bool false), .s [], .v (.int .i64 0), .v (.int .i64 0), .s [], .sl true [], .sl true [], .sl true [], .sl true [], .v (.int .i64 0), .v (.int .i64 0), .s [], .sl true []]
abbrev redBox (c : J) (i : Nat) (tb : Bool) : AObj := jbox (redJ c (nine.take i)).kind (redJ c (nine.take i)).int (redJ c (nine.take i)).text (.sl tb ((redJ c (nine.take i)).keys.map strCells)) (.sl tb ((redJ c (nine.take i)).list.map J.cells))
theorem red_step {c : J} {i : Nat} {k : List UInt8} (hk : nine[i]? = some k) : redJ c (nine.take (i + 1)) = match jGet c k with | some v => .mk 5 0 [] ((redJ c (nine.take i)).keys ++ [k]) ((redJ c (nine.take i)).list ++ [v]) | none => redJ c (nine.take i) := by
  have e : redPs c (nine.take (i + 1)) = redPs c (nine.take i) ++ (match jGet c k with | some v => [(k, v)] | none => []) := by
    rw [take_succ hk, redPs, List.filterMap_append, redPs]
    cases h : jGet c k with
    | none => simp [h]
    | some v => simp [h]
  rw [redJ, e]
  cases h : jGet c k with
  | none => simp [redJ]
  | some v => simp [redJ, J.keys, J.list]
set_option maxHeartbeats 4000000 in
theorem redact_c (c : J) (hf : J.Fit c) (hB : fitB c = true) (H : AHeap) (Kc : AV → AHeap → Prop) (h : Kc (.agg (evC (redJ c nine).ord)) H) : ACall X 11 [.agg (evC c)] H Kc := by
  refine ACall.drop ?_
  have h5 : c.kind = 5 ∧ goodB 12 c = true := by
    rw [fitB] at hB; simp only [Bool.and_eq_true, decide_eq_true_eq] at hB; exact hB.1
  obtain ⟨h5, hg⟩ := h5
  have hcl : c.keys.length ≤ 9223372036854775807 ∧ c.list.length ≤ 9223372036854775807 := by have := (fit_eq.1 hf).1; omega
  have hFit : ∀ (H : AHeap) (K : AV → AHeap → Prop), K (.v (.bool true)) H → ACall X 10 [.agg (evC c)] H K := fun H K hk => fits_c c hf H K (by rw [hB]; exact hk)
  have hGet : ∀ (k : List UInt8) (H : AHeap) (K : AV → AHeap → Prop), K (getRes (jGet c k)) H → ACall X 36 [.agg [.v (.int .i64 c.kind), .v (.int .i64 c.int), .s c.text, .sl false (c.keys.map strCells), .sl false (c.list.map J.cells)], .s k] H K := fun k H K hk => by rw [← J.cells_eq]; exact get_c c hcl k H K hk
  refine ACall_intro Tryz.func11 rfl (by kernel_rfl) (by rw [Tryz.ntmps11]; simp) ?_; rw [Tryz.ntmps11]; simp only [frame0, Nat.reduceAdd]
  refine AWp_seq_k (fun K hK => ?_); apply s_region
  apply s_box; decide; exact (by simp only [go_sem]; try rfl); exact (by simp only [go_sem]; try rfl); intro p hp
  apply s_alloc; decide; exact zc_event; intro r hr
  apply s_nil; simp only [AThen, ABlock]; refine hK _ _ ?_; clear hK K
  generalize hgenq : AHeap.put p _ H = M1 at hr ⊢; obtain ⟨g1, hextq⟩ := gen_ex hgenq hp; have hE := hextq; clear hextq hgenq
  have hHr : H.get r = none := none_of_ext hE hr
  have hpr := get_ne_fresh g1 hr
  generalize hgenq : AHeap.put r _ M1 = M; obtain ⟨g2, hextq⟩ := gen_ex hgenq hr; have g1 := hextq _ _ g1; have hE := Ext.trans hE hextq; clear hextq hgenq
  ((iterate 2 (refine AWp_seq_k (fun K hK => ?_))); apply s_region; apply s_q; decide; rfl; (simp only [go_sem, g1]; rfl); apply s_call; decide; (simp only [go_sem, g1]; rfl); (simp only [go_sem, g1]; rfl); apply hFit; apply s_q; decide; rfl; (simp only [go_sem, g1]; rfl); apply s_nil; simp only [AThen, ABlock]; refine hK _ _ ?_; clear hK K)
  refine cond_split (by simp only [go_sem]; try rfl) (fun hc => ?_) (fun hc => ?_)
  · simp at hc
  (apply AWp_skip; simp only [AThen, ABlock]; refine hK _ _ ?_; clear hK K; refine AWp_seq_k (fun K hK => ?_); apply s_region; (iterate 2 (apply s_q; decide; rfl; (simp only [go_sem, g1, zc_json]; rfl))); apply s_call; decide; (simp only [go_sem, g1, zc_json]; rfl); (simp only [go_sem, g1, zc_json]; rfl); apply keys_c; apply s_q; decide; rfl; (simp only [go_sem, g1, zc_json]; rfl); apply s_nil; simp only [AThen, ABlock]; refine hK _ _ ?_; clear hK K; refine AWp_seq_k (fun K hK => ?_); apply s_region; apply s_q; decide; rfl; (simp only [go_sem, g1, zc_json]; rfl); apply s_alloc; decide; exact zc_25; intro b hb; apply s_store; (simp only [go_sem, g1, zc_json]; rfl); (simp only [go_sem, g1, zc_json]; rfl); (simp only [go_sem, g1, zc_json]; rfl); apply s_nil; simp only [AThen, ABlock]; refine hK _ _ ?_; clear hK K; (iterate 2 (refine AWp_seq_k (fun K hK => ?_))); apply s_region; apply s_q; decide; rfl; (simp only [go_sem, g1, zc_json]; rfl); apply s_nil; simp only [AThen, ABlock]; refine hK _ _ ?_; clear hK K; apply AWp_block)
  obtain ⟨m, hnewq⟩ : ∃ q, q = b := ⟨_, rfl⟩; have hm := hb; rw [← hnewq] at hm ⊢; clear hb hnewq; try clear he; clear b
  have hHm : H.get m = none := none_of_ext hE hm
  have hpm := get_ne_fresh g1 hm
  have hrm := get_ne_fresh g2 hm
  generalize hgenq : AHeap.put m _ M = M2; obtain ⟨g3, hextq⟩ := gen_ex hgenq hm; have g1 := hextq _ _ g1; have g2 := hextq _ _ g2; have hE := Ext.trans hE hextq; clear hextq hgenq
  have hHp : H.get p = none := hp
  refine AWp_loop_s (σ := Nat × Bool × AHeap) [1, 2, 3, 4, 5] (fun s => [ptrTo p, ptrTo r, .sl true (nine.map strCells), ptrTo m, .v (.int .i64 ((s.1 : Nat) : Int))]) (fun s => s.2.2) (fun s => 9 - s.1)
    (fun s => s.1 ≤ 9 ∧ Ext H s.2.2 ∧ s.2.2.get p = some (evBox c) ∧ s.2.2.get r = some evZ ∧ s.2.2.get m = some (redBox c s.1 s.2.1)) (0, true, M2) ⟨Nat.zero_le _, hE, g1, g2, g3⟩ rfl rfl (fun s hs => ?_)
  obtain ⟨i, tb, L⟩ := s
  obtain ⟨hi, hEL, hpL, hrL, hmL⟩ := hs
  clear hE g1 g2 g3
  simp only [List.zip_cons_cons, List.zip_nil_right] at hi hEL hpL hrL hmL ⊢
  have hl9 : (nine.map strCells).length = 9 := rfl
  ((iterate 2 (refine AWp_seq_k (fun K hK => ?_))); apply s_region; (iterate 4 (apply s_q; decide; rfl; (simp only [go_sem, hl9]; rfl))); apply s_nil; simp only [AThen, ABlock]; refine hK _ _ ?_; clear hK K)
  refine cond_split (by simp only [go_sem]; try rfl) (fun hd => ?_) (fun hd => ?_)
  · have hd' : (i : Int) < 9 := by simpa using hd
    have hlt : i < 9 := by omega
    obtain ⟨k, hk⟩ := gete (l := nine) (i := i) hlt
    have hgk := jstr_at hk
    have hst := red_step (c := c) hk
    obtain ⟨jb, hjb⟩ : ∃ jb, jb = redJ c (nine.take i) := ⟨_, rfl⟩
    rw [← hjb] at hst
    have hml : jb.keys.length ≤ 1000000 ∧ jb.list.length ≤ 1000000 := by
      have h1 : (redPs c (nine.take i)).length ≤ (nine.take i).length := List.length_filterMap_le ..
      have h2 : (nine.take i).length ≤ 9 := by rw [List.length_take]; show min i 9 ≤ 9; omega
      rw [hjb]
      refine ⟨?_, ?_⟩
      · show ((redPs c (nine.take i)).map (·.1)).length ≤ _; rw [List.length_map]; omega
      · show ((redPs c (nine.take i)).map (·.2)).length ≤ _; rw [List.length_map]; omega
    have hmL : L.get m = some (jbox jb.kind jb.int jb.text (.sl tb (jb.keys.map strCells)) (.sl tb (jb.list.map J.cells))) := by rw [hjb]; exact hmL
    have hwi : IntKind.i64.wrap ((i : Int) + 1) = ((i + 1 : Nat) : Int) := wrapS (n := 9) hlt (by omega)
    cases hjk : jGet c k with
    | none =>
      have hG : ∀ (H : AHeap) (K : AV → AHeap → Prop), K (.tup [.agg [.v (.int .i64 0), .v (.int .i64 0), .s [], .sl false [], .sl false []], .v (.bool false)]) H → ACall X 36 [.agg [.v (.int .i64 c.kind), .v (.int .i64 c.int), .s c.text, .sl false (c.keys.map strCells), .sl false (c.list.map J.cells)], .s k] H K := fun H K hk => hGet k H K (by rw [hjk]; exact hk)
      rw [hjk] at hst
      (apply AWp_skip; simp only [AThen, ABlock]; refine hK _ _ ?_; clear hK K; refine AWp_seq_k (fun K hK => ?_); apply AWp_block; refine AWp_seq_k (fun K hK => ?_))
      apply AWp_drawA [0, 1, 2, 3, 4, 5, 6, 7, 8, 9] [10, 11, 12] 2 (by exact mixed); kernel_rfl; (simp only [go_sem]; rfl); (simp only [go_sem]; rfl)
      ((iterate 6 (apply e_q; decide; (simp only [go_sem, hpL, hgk, zc_json]; rfl))); apply e_call; decide; (simp only [go_sem, hpL, hgk, zc_json]; rfl); (simp only [go_sem, hpL, hgk, zc_json]; rfl); (apply hG; exact ⟨rfl, rfl⟩); (iterate 3 (apply e_q; decide; (simp only [go_sem, hpL, hgk, zc_json]; rfl))); apply e_nil; apply t_alloc; decide; exact zc_25; (intro _; exact Ext.refl _); intro b hb he; apply t_storex; (simp only [go_sem, hpL, hgk, zc_json]; rfl); (simp only [go_sem, hpL, hgk, zc_json]; rfl); (simp only [go_sem, hpL, hgk, zc_json]; rfl); (first | (intro _; exact Ext.put (Ext.refl _) (by assumption)) | (intro h; exact absurd h (by decide)) | (intro _; exact Ext.put (by assumption) (by assumption))); apply t_q; decide; (simp only [go_sem, hpL, hgk, zc_json]; rfl); (intro h; exact absurd h (by decide)); apply t_nil; simp only [AThen, ABlock]; refine hK _ _ ?_; clear hK K; refine AWp_seq_k (fun K hK => ?_); apply s_region; apply s_q; decide; rfl; (simp only [go_sem, hpL, hgk, zc_json]; rfl); apply s_nil; simp only [AThen, ABlock]; refine hK _ _ ?_; clear hK K)
      obtain ⟨q6, hnewq⟩ : ∃ q, q = b := ⟨_, rfl⟩; have hq6 := hb; rw [← hnewq] at hq6 ⊢; clear hb hnewq; try clear he; clear b
      have hpm6 := hpL
      generalize hgenq : AHeap.put q6 _ L = L2; obtain ⟨g6, hextq⟩ := gen_ex hgenq hq6; have hpL := hextq _ _ hpL; have hrL := hextq _ _ hrL; have hmL := hextq _ _ hmL; have hEL := Ext.trans hEL hextq; clear hextq hgenq
      refine cond_split (by simp only [go_sem]; try rfl) (fun hu => ?_) (fun hu => ?_)
      · simp at hu
      (apply AWp_skip; simp only [AThen, ABlock]; refine hK _ _ ?_; clear hK K; apply s_region; (iterate 3 (apply s_q; decide; rfl; (simp only [go_sem]; rfl))); apply s_nil; simp only [AThen, ABlock])
      refine ⟨(i + 1, tb, L2), by simp only; omega, ⟨by simp only; omega, hEL, hpL, hrL, ?_⟩, ?_, by trivial⟩
      · show L2.get m = some (redBox c (i + 1) tb)
        rw [redBox, hst]; exact hmL
      · simp only [getAll, List.map_cons, List.map_nil, AFr.get, reduceIte, Nat.reduceEqDiff]
        rw [hwi]; try rfl
    | some v =>
      have hG : ∀ (H : AHeap) (K : AV → AHeap → Prop), K (.tup [.agg [.v (.int .i64 v.kind), .v (.int .i64 v.int), .s v.text, .sl false (v.keys.map strCells), .sl false (v.list.map J.cells)], .v (.bool true)]) H → ACall X 36 [.agg [.v (.int .i64 c.kind), .v (.int .i64 c.int), .s c.text, .sl false (c.keys.map strCells), .sl false (c.list.map J.cells)], .s k] H K := fun H K hk => hGet k H K (by rw [hjk, getRes, J.cells_eq]; exact hk)
      rw [hjk] at hst
      (apply AWp_skip; simp only [AThen, ABlock]; refine hK _ _ ?_; clear hK K; refine AWp_seq_k (fun K hK => ?_); apply AWp_block; refine AWp_seq_k (fun K hK => ?_))
      apply AWp_drawA [0, 1, 2, 3, 4, 5, 6, 7, 8, 9] [10, 11, 12] 2 (by exact mixed); kernel_rfl; (simp only [go_sem]; rfl); (simp only [go_sem]; rfl)
      ((iterate 6 (apply e_q; decide; (simp only [go_sem, hpL, hgk, zc_json]; rfl))); apply e_call; decide; (simp only [go_sem, hpL, hgk, zc_json]; rfl); (simp only [go_sem, hpL, hgk, zc_json]; rfl); (apply hG; exact ⟨rfl, rfl⟩); (iterate 3 (apply e_q; decide; (simp only [go_sem, hpL, hgk, zc_json]; rfl))); apply e_nil; apply t_alloc; decide; exact zc_25; (intro _; exact Ext.refl _); intro b hb he; apply t_storex; (simp only [go_sem, hpL, hgk, zc_json]; rfl); (simp only [go_sem, hpL, hgk, zc_json]; rfl); (simp only [go_sem, hpL, hgk, zc_json]; rfl); (first | (intro _; exact Ext.put (Ext.refl _) (by assumption)) | (intro h; exact absurd h (by decide)) | (intro _; exact Ext.put (by assumption) (by assumption))); apply t_q; decide; (simp only [go_sem, hpL, hgk, zc_json]; rfl); (intro h; exact absurd h (by decide)); apply t_nil; simp only [AThen, ABlock]; refine hK _ _ ?_; clear hK K; refine AWp_seq_k (fun K hK => ?_); apply s_region; apply s_q; decide; rfl; (simp only [go_sem, hpL, hgk, zc_json]; rfl); apply s_nil; simp only [AThen, ABlock]; refine hK _ _ ?_; clear hK K)
      obtain ⟨q6, hnewq⟩ : ∃ q, q = b := ⟨_, rfl⟩; have hq6 := hb; rw [← hnewq] at hq6 ⊢; clear hb hnewq; try clear he; clear b
      have hm6 := get_ne_fresh hmL hq6
      generalize hgenq : AHeap.put q6 _ L = L2; obtain ⟨g6, hextq⟩ := gen_ex hgenq hq6; have hpL := hextq _ _ hpL; have hrL := hextq _ _ hrL; have hmL := hextq _ _ hmL; have hEL := Ext.trans hEL hextq; clear hextq hgenq
      have hPut : ∀ (H : AHeap) (K : AV → AHeap → Prop), K (.agg [.v (.int .i64 5), .v (.int .i64 0), .s [], .sl false ((jb.keys ++ [k]).map strCells), .sl false ((jb.list ++ [v]).map J.cells)]) H →
          ACall X 37 [.agg [.v (.int .i64 jb.kind), .v (.int .i64 jb.int), .s jb.text, .sl tb (jb.keys.map strCells), .sl tb (jb.list.map J.cells)], .s k, .agg [.v (.int .i64 v.kind), .v (.int .i64 v.int), .s v.text, .sl false (v.keys.map strCells), .sl false (v.list.map J.cells)]] H K := fun H K hk => by
        rw [← J.cells_eq v]
        exact jputT_c tb jb v k hml H K (by rw [J.cells_eq]; exact hk)
      refine cond_split (by simp only [go_sem]; try rfl) (fun hu => ?_) (fun hu => ?_)
      rotate_left
      · simp at hu
      skip
      apply AWp_drawA [0, 1, 2, 3, 4, 5, 6] [7] 0 (by exact mixed); kernel_rfl; (simp only [go_sem]; rfl); (simp only [go_sem]; rfl)
      ((iterate 6 (apply e_q; decide; (simp only [go_sem, hmL, hgk, g6]; rfl))); apply e_call; decide; (simp only [go_sem, hmL, hgk, g6]; rfl); (simp only [go_sem, hmL, hgk, g6]; rfl); (apply hPut; exact ⟨rfl, rfl⟩); apply e_nil; apply t_storex; (simp only [go_sem, hmL, hgk, g6]; rfl); (simp only [go_sem, hmL, hgk, g6]; rfl); (simp only [go_sem, hmL, hgk, g6]; rfl); (first | (intro _; exact Ext.put (Ext.refl _) (by assumption)) | (intro h; exact absurd h (by decide)) | (intro _; exact Ext.put (by assumption) (by assumption))); apply t_nil; simp only [AThen, ABlock]; refine hK _ _ ?_; clear hK K; apply s_region; (iterate 3 (apply s_q; decide; rfl; (simp only [go_sem, hmL, hgk, g6]; rfl))); apply s_nil; simp only [AThen, ABlock])
      refine ⟨(i + 1, false, _), by simp only; omega, ⟨by simp only; omega, hEL.over hHm, get_other hpL hpm, get_other hrL hrm, ?_⟩, ?_, by rfl⟩
      · show _ = some (redBox c (i + 1) false)
        rw [redBox, hst]; exact AHeap.get_put_same _ _ _
      · simp only [getAll, List.map_cons, List.map_nil, AFr.get, reduceIte, Nat.reduceEqDiff]
        rw [hwi]; try rfl
  have hi9 : i = 9 := by
    have : ¬ (i : Int) < 9 := by simpa using hd
    omega
  subst hi9
  have hj9 : redJ c (nine.take 9) = redJ c nine := rfl
  rw [redBox, hj9] at hmL
  have hrg := red_good (ks := nine) hg nine_nodup nine_valid
  have hrf := red_fit (c := c) (ks := nine) hf (by decide) (by decide)
  have hOrd : ∀ (H : AHeap) (K : AV → AHeap → Prop), K (.agg [.v (.int .i64 (redJ c nine).ord.kind), .v (.int .i64 (redJ c nine).ord.int), .s (redJ c nine).ord.text, .sl false ((redJ c nine).ord.keys.map strCells), .sl false ((redJ c nine).ord.list.map J.cells)]) H →
      ACall X 38 [.agg [.v (.int .i64 (redJ c nine).kind), .v (.int .i64 (redJ c nine).int), .s (redJ c nine).text, .sl tb ((redJ c nine).keys.map strCells), .sl tb ((redJ c nine).list.map J.cells)]] H K := fun H K hk =>
    rOrderT_c tb (redJ c nine) hrf H K (by rw [if_pos hrg, J.cells_eq]; exact hk)
  obtain ⟨w, hw⟩ : ∃ w, w = (redJ c nine).ord := ⟨_, rfl⟩
  rw [← hw] at hOrd h
  have hp1 := get_other (x := evBox w) hrL hpr.symm
  have hp2 := AHeap.get_put_same p (evBox w) L
  have hE2 := hEL.over (o := evBox w) hHp
  (apply AWp_exit; simp only [AThen, ABlock, reduceIte, Nat.reduceEqDiff]; clear hK K; refine hK _ _ ?_; clear hK K; refine AWp_seq_k (fun K hK => ?_); apply s_region; apply s_q; decide; rfl; (simp only [go_sem, hmL, hpL, hp1]; rfl); apply s_call; decide; (simp only [go_sem, hmL, hpL, hp1]; rfl); (simp only [go_sem, hmL, hpL, hp1]; rfl); apply hOrd; apply s_q; decide; rfl; (simp only [go_sem, hmL, hpL, hp1]; rfl); apply s_store; (simp only [go_sem, hmL, hpL, hp1]; rfl); (simp only [go_sem, hmL, hpL, hp1]; rfl); (simp only [go_sem, hmL, hpL, hp1]; rfl); apply s_nil; simp only [AThen, ABlock]; refine hK _ _ ?_; clear hK K; refine AWp_seq_k (fun K hK => ?_); apply s_region; apply s_q; decide; rfl; (simp only [go_sem, hmL, hpL, hp1]; rfl); apply s_store; (simp only [go_sem, hmL, hpL, hp1]; rfl); (simp only [go_sem, hmL, hpL, hp1]; rfl); (simp only [go_sem, hmL, hpL, hp1]; rfl); apply s_nil; simp only [AThen, ABlock]; refine hK _ _ ?_; clear hK K; apply AWp_ret)
  refine end_ret (av := .agg (evC w)) (by show resAV X.P _ _ [.cell 2 37] = _; simp only [go_sem]; try rfl) ⟨H, hE2.over hHr, h⟩
theorem parse_red {c : J} (h5 : c.kind = 5) (hg : goodB 12 c = true) : lvParse (redJ c nine).ord = lvParse c := by
  have hrg := red_good (ks := nine) hg nine_nodup nine_valid
  have hr5 : (redJ c nine).kind = 5 := rfl
  rw [lvParse_doc (by rw [ord_kind]; exact hr5) (good_ord hrg), lvParse_doc h5 hg]
  obtain ⟨e1, e2⟩ := docOk_get (j := c) (j' := (redJ c nine).ord) (fun k hk => by
    rw [jGet_ord hrg hr5, red_get nine_nodup (show k ∈ nine from hk)]) (fun k v hv => by
    rw [goodB] at hg
    simp only [Bool.and_eq_true, List.all_eq_true] at hg
    exact ord_ord (hg.2 v (jGet_mem hv)))
  rw [e1, e2]
theorem red_short {c : J} (hg : goodB 12 c = true) (hs : smlB c = true) : (∀ k ∈ (redJ c nine).ord.keys, k.length < 4294967281) ∧ ∀ x ∈ (redJ c nine).ord.list, ∀ k ∈ x.keys, k.length < 4294967281 := by
  have hr5 : (redJ c nine).kind = 5 := rfl
  obtain ⟨f1, f2, f3⟩ := small_fit hs
  refine ⟨fun k hk => ?_, fun x hx k hk => ?_⟩
  · rw [ord_keys5 hr5] at hk
    have := (ord_perm _).mem_iff.1 hk
    obtain ⟨p, hp, rfl⟩ := List.mem_map.1 this
    have h9 : ∀ k ∈ nine, k.length < 4294967281 := by decide
    exact h9 _ (red_mem hp).1
  · have hrg := red_good (ks := nine) hg nine_nodup nine_valid
    obtain ⟨y, hy, rfl⟩ := ord_list hr5 (shaped_map (good_shaped hrg) hr5).1 hx
    obtain ⟨p, hp, rfl⟩ := List.mem_map.1 hy
    have hm := jGet_mem (red_mem hp).2
    have hk2 : k ∈ p.2.keys := by
      rw [ord_eq] at hk
      split at hk
      · exact (ord_perm _).mem_iff.1 hk
      · simp [J.keys] at hk
    have := f3 _ hm k hk2
    omega
set_option maxHeartbeats 4000000 in
theorem redacts_c (c : J) (H : AHeap) (Kc : AV → AHeap → Prop) (h : Kc (.v (.bool true)) H) : ACall X 4 [.agg c.cells] H Kc := by
  refine ACall.drop ?_
  rw [J.cells_eq]
  refine ACall_intro Tryz.func4 rfl (by kernel_rfl) (by rw [Tryz.ntmps4]; simp) ?_; rw [Tryz.ntmps4]; simp only [frame0, Nat.reduceAdd]
  refine AWp_seq_k (fun K hK => ?_); apply s_region
  apply s_box; decide; exact (by simp only [go_sem]; try rfl); exact (by simp only [go_sem]; try rfl); intro p hp
  (apply s_q; decide; rfl; (simp only [go_sem]; rfl); apply s_nil; simp only [AThen, ABlock]; refine hK _ _ ?_; clear hK K; (iterate 2 (refine AWp_seq_k (fun K hK => ?_))); apply s_region; apply s_q; decide; rfl; (simp only [go_sem]; rfl))
  generalize hgenq : AHeap.put p _ H = M; obtain ⟨g1, hextq⟩ := gen_ex hgenq hp; have hE := hextq; clear hextq hgenq
  (apply s_call; decide; (simp only [go_sem, g1]; rfl); (simp only [go_sem, g1]; rfl); refine ACall.args_eq (bs := [.agg c.cells]) ?_ ?_; (focus (rw [J.cells_eq c]; done)); apply small_c2 c; apply s_q; decide; rfl; (simp only [go_sem, g1]; rfl); apply s_nil; simp only [AThen, ABlock]; refine hK _ _ ?_; clear hK K)
  refine cond_split (by simp only [go_sem]; try rfl) (fun hc => ?_) (fun hc => ?_)
  · (refine AWp_seq_k (fun K hK => ?_); apply s_region; apply s_q; decide; rfl; (simp only [go_sem]; rfl); apply s_nil; simp only [AThen, ABlock]; refine hK _ _ ?_; clear hK K; apply AWp_ret; simp only [AThen, ABlock]; apply end_ret; rfl; simp only [AFr.get, reduceIte, Nat.reduceEqDiff])
    exact ⟨H, hE, h⟩
  have hs : smlB c = true := by simpa using hc
  obtain ⟨f1, f2, f3⟩ := small_fit hs
  have hFits : ∀ (H : AHeap) (K : AV → AHeap → Prop), K (.v (.bool (fitB c))) H → ACall X 10 [.agg (evC c)] H K := fun H K hk => fits_c c f1 H K hk
  (apply AWp_skip; simp only [AThen, ABlock]; refine hK _ _ ?_; clear hK K; refine AWp_seq_k (fun K hK => ?_); apply s_region; (iterate 2 (apply s_q; decide; rfl; (simp only [go_sem, g1]; rfl))); apply s_alloc; decide; exact zc_37; intro b hb; apply s_store; (simp only [go_sem, g1]; rfl); (simp only [go_sem, g1]; rfl); (simp only [go_sem, g1]; rfl); apply s_nil; simp only [AThen, ABlock]; refine hK _ _ ?_; clear hK K; (iterate 2 (refine AWp_seq_k (fun K hK => ?_))); apply s_region; apply s_q; decide; rfl; (simp only [go_sem, g1]; rfl))
  obtain ⟨p3, hnewq⟩ : ∃ q, q = b := ⟨_, rfl⟩; have hp3 := hb; rw [← hnewq] at hp3 ⊢; clear hb hnewq; try clear he; clear b
  generalize hgenq : AHeap.put p3 _ M = M3; obtain ⟨g3, hextq⟩ := gen_ex hgenq hp3; have g1 := hextq _ _ g1; have hE := Ext.trans hE hextq; clear hextq hgenq
  (apply s_call; decide; (simp only [go_sem, g3]; rfl); (simp only [go_sem, g3]; rfl); apply hFits; apply s_q; decide; rfl; (simp only [go_sem, g3]; rfl); apply s_nil; simp only [AThen, ABlock]; refine hK _ _ ?_; clear hK K)
  refine cond_split (by simp only [go_sem]; try rfl) (fun hf => ?_) (fun hf => ?_)
  · (refine AWp_seq_k (fun K hK => ?_); apply s_region; apply s_call; decide; (simp only [go_sem]; rfl); (simp only [go_sem]; rfl); apply awake_c; apply s_q; decide; rfl; (simp only [go_sem]; rfl); apply s_nil; simp only [AThen, ABlock]; refine hK _ _ ?_; clear hK K; apply AWp_ret; simp only [AThen, ABlock]; apply end_ret; rfl; simp only [AFr.get, reduceIte, Nat.reduceEqDiff])
    exact ⟨H, hE, h⟩
  have hB : fitB c = true := by simpa using hf
  have h5 : c.kind = 5 ∧ goodB 12 c = true := by
    rw [fitB] at hB; simp only [Bool.and_eq_true, decide_eq_true_eq] at hB; exact hB.1
  obtain ⟨h5, hg⟩ := h5
  have hrg := red_good (ks := nine) hg nine_nodup nine_valid
  have hrf := fit_ord hrg (red_fit (c := c) (ks := nine) f1 (by decide) (by decide))
  obtain ⟨L0, e0, q0, q1, q2⟩ := lvRes_eq (lvParse c)
  have hlen : L0.Len := by
    by_cases h0 : e0 = 0
    · exact parse_len f1 (q1 h0)
    · obtain ⟨_, rfl⟩ := q2 h0
      simp [Lv.Len, lv0]
  obtain ⟨w, hw⟩ : ∃ w, w = (redJ c nine).ord := ⟨_, rfl⟩
  have hP : ∀ (H : AHeap) (K : AV → AHeap → Prop), K (.tup [.agg L0.cells, .v (.int .i64 e0)]) H → ACall X 6 [.agg c.cells] H K := fun H K hk => parse_c c f1 ⟨fun k hk => by have := f2 k hk; omega, fun x hx k hk => by have := f3 x hx k hk; omega⟩ H K (by rw [q0]; exact hk)
  have hP2 : ∀ (H : AHeap) (K : AV → AHeap → Prop), K (.tup [.agg L0.cells, .v (.int .i64 e0)]) H → ACall X 6 [.agg w.cells] H K := fun H K hk => parse_c w (by rw [hw]; exact hrf) (by rw [hw]; exact red_short hg hs) H K (by rw [hw, parse_red h5 hg, q0]; exact hk)
  have hRed : ∀ (H : AHeap) (K : AV → AHeap → Prop), K (.agg (evC w)) H → ACall X 11 [.agg (evC c)] H K := fun H K hk => redact_c c f1 hB H K (by rw [← hw]; exact hk)
  have hS : ∀ (H : AHeap) (K : AV → AHeap → Prop), K (.v (.bool true)) H → ACall X 8 [.agg L0.cells, .agg L0.cells] H K := fun H K hk => rSameSelf_c L0 hlen H K hk
  (apply AWp_skip; simp only [AThen, ABlock]; refine hK _ _ ?_; clear hK K; refine AWp_seq_k (fun K hK => ?_); apply s_region; apply s_q; decide; rfl; (simp only [go_sem, g1]; rfl); apply s_call; decide; (simp only [go_sem, g1]; rfl); (simp only [go_sem, g1]; rfl); refine ACall.args_eq (bs := [.agg c.cells]) ?_ ?_; (focus (rw [J.cells_eq c]; done)); apply hP; (iterate 3 (apply s_q; decide; rfl; (simp only [go_sem, g1]; rfl))); apply s_alloc; decide; exact zc_29; intro b hb; apply s_store; (simp only [go_sem, g1]; rfl); (simp only [go_sem, g1]; rfl); (simp only [go_sem, g1]; rfl); apply s_q; decide; rfl; (simp only [go_sem, g1]; rfl); apply s_nil; simp only [AThen, ABlock]; refine hK _ _ ?_; clear hK K; refine AWp_seq_k (fun K hK => ?_); apply s_region)
  obtain ⟨p4, hnewq⟩ : ∃ q, q = b := ⟨_, rfl⟩; have hp4 := hb; rw [← hnewq] at hp4 ⊢; clear hb hnewq; try clear he; clear b
  generalize hgenq : AHeap.put p4 _ M3 = M4; obtain ⟨g4, hextq⟩ := gen_ex hgenq hp4; have g1 := hextq _ _ g1; have g3 := hextq _ _ g3; have hE := Ext.trans hE hextq; clear hextq hgenq
  (apply s_q; decide; rfl; (simp only [go_sem, g3]; rfl); apply s_call; decide; (simp only [go_sem, g3]; rfl); (simp only [go_sem, g3]; rfl); apply hRed; apply s_q; decide; rfl; (simp only [go_sem, g3]; rfl); apply s_call; decide; (simp only [go_sem, g3]; rfl); (simp only [go_sem, g3]; rfl); refine ACall.args_eq (bs := [.agg w.cells]) ?_ ?_; (focus (rw [J.cells_eq w]; done)); apply hP2; (iterate 3 (apply s_q; decide; rfl; (simp only [go_sem, g3]; rfl))); apply s_alloc; decide; exact zc_29; intro b hb; apply s_store; (simp only [go_sem, g3]; rfl); (simp only [go_sem, g3]; rfl); (simp only [go_sem, g3]; rfl); apply s_q; decide; rfl; (simp only [go_sem, g3]; rfl); apply s_nil; simp only [AThen, ABlock]; refine hK _ _ ?_; clear hK K; refine AWp_seq_k (fun K hK => ?_); apply s_region)
  obtain ⟨p6, hnewq⟩ : ∃ q, q = b := ⟨_, rfl⟩; have hp6 := hb; rw [← hnewq] at hp6 ⊢; clear hb hnewq; try clear he; clear b
  generalize hgenq : AHeap.put p6 _ M4 = M6; obtain ⟨g6, hextq⟩ := gen_ex hgenq hp6; have g4 := hextq _ _ g4; have hE := Ext.trans hE hextq; clear hextq hgenq
  ((iterate 2 (apply s_q; decide; rfl; (simp only [go_sem, g4, g6]; rfl))); apply s_call; decide; (simp only [go_sem, g4, g6]; rfl); (simp only [go_sem, g4, g6]; rfl); apply hS; apply s_q; decide; rfl; (simp only [go_sem, g4, g6]; rfl); (iterate 3 (apply s_spec; decide; rfl; rfl; (simp only [go_sem, g4, g6]; rfl); (simp only [go_sem, g4, g6]; rfl); (simp only [go_sem, g4, g6]; rfl); (simp only [go_sem, g4, g6]; rfl); trivial)); apply s_pick; decide; (simp only [go_sem, g4, g6]; rfl); (simp only [go_sem, g4, g6]; rfl); (simp only [go_sem, g4, g6]; rfl); (simp only [go_sem, g4, g6]; rfl); (simp only [go_sem, g4, g6]; rfl); (simp only [go_sem, g4, g6]; rfl); trivial; trivial; trivial; apply s_q; decide; rfl; (simp only [go_sem, g4, g6]; rfl); apply s_gpure; decide; (simp only [go_sem, g4, g6]; rfl); (simp only [go_sem, g4, g6]; rfl); (simp only [go_sem, g4, g6]; rfl); trivial; (simp only [go_sem, g4, g6]; rfl); (simp only [go_sem, g4, g6]; rfl); (apply awake_c; exact ⟨rfl, rfl⟩); apply s_pick; decide; (simp only [go_sem, g4, g6]; rfl); (simp only [go_sem, g4, g6]; rfl); (simp only [go_sem, g4, g6]; rfl); (simp only [go_sem, g4, g6]; rfl); (simp only [go_sem, g4, g6]; rfl); (simp only [go_sem, g4, g6]; rfl); trivial; trivial; trivial; apply s_q; decide; rfl; (simp only [go_sem, g4, g6]; rfl); apply s_nil; simp only [AThen, ABlock]; refine hK _ _ ?_; clear hK K; apply AWp_ret)
  refine end_ret (av := .v (.bool true)) (by show resAV X.P _ _ [.tmp 2] = _; simp [go_sem]; try rfl) ⟨H, hE, h⟩
end Go.Proofs.YtniaafncmnilgaaGreatDoor
