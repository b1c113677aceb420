/-
  RelateOrder: walked.
-/
import Derived.Test.YtmloandpjbimkaaW25V
import Derived.Test.YtmloandpjbimkaaAL4
set_option linter.unusedSimpArgs false
set_option linter.unusedVariables false
set_option maxRecDepth 100000
namespace Go.Proofs.Ytmloandpjbimkaa
open Go Go.AL
attribute [local irreducible] AOps AWp SOps AE AT ACall AApp

set_option maxHeartbeats 8000000 in
theorem relateOrder_c (hS : HSort) (hKy : HKeys) (l : List Kn) (hl : l.length ≤ 4611686018427387904) (hw : ∀ k ∈ l, k.Wide) (name : List UInt8) (by_ : Int) (H : AHeap) (K : AV → AHeap → Prop) (h : K (.v (.bool true)) H) : ACall X 7 [.sl false (l.map Kn.cells), .s name, .v (.int .i64 by_)] H K := by
  refine ACall.drop ?_
  have hok : ∀ k ∈ l, k.Ok := fun k hk => (hw k hk).1
  have hsn : ∀ k ∈ l, k.ev.sender.length ≤ 4611686018427387904 := fun k hk => (hw k hk).2.2.2.2
  refine ACall_intro Try.func7 rfl (by kernel_rfl) (by rw [Try.ntmps7]; simp) ?_; rw [Try.ntmps7]; simp only [frame0, Nat.reduceAdd]
  (refine AWp_seq_k (fun K hK => ?_); apply s_region; apply s_q; decide; rfl; (simp only [go_sem]; rfl); apply s_nil; simp only [AThen, ABlock]; refine hK _ _ ?_; clear hK K; (iterate 2 (refine AWp_seq_k (fun K hK => ?_))); apply s_region; (iterate 2 (apply s_q; decide; rfl; (simp only [go_sem]; rfl))); apply s_call; decide; (simp only [go_sem]; rfl); (simp only [go_sem]; rfl); apply few25_c false l hl hw name; intro b1 h30; (iterate 2 (apply s_q; decide; rfl; (simp only [go_sem]; rfl))); apply s_spec; decide; rfl; rfl; (simp only [go_sem]; rfl); (simp only [go_sem]; rfl); (simp only [go_sem]; rfl); (simp only [go_sem]; rfl); trivial)
  cases b1 with
  | false =>
    have hn1 : (!false) = true := rfl
    ((iterate 2 (apply s_when (av := (.v (.bool false))); decide; (simp only [go_sem, hn1]; rfl); (simp only [go_sem, hn1]; rfl); (simp only [go_sem, hn1]; rfl); trivial; (focus (intro hg; first | (cases hg; done) | (simp at hg; done))))); (iterate 2 (apply s_spec; decide; rfl; rfl; (simp only [go_sem, hn1]; rfl); (simp only [go_sem, hn1]; rfl); (simp only [go_sem, hn1]; rfl); (simp only [go_sem, hn1]; rfl); trivial)); apply s_when (av := (.v (.bool false))); decide; (simp only [go_sem, hn1]; rfl); (simp only [go_sem, hn1]; rfl); (simp only [go_sem, hn1]; rfl); trivial; (focus (intro hg; first | (cases hg; done) | (simp at hg; done))); apply s_pick; decide; (simp only [go_sem, hn1]; rfl); (simp only [go_sem, hn1]; rfl); (simp only [go_sem, hn1]; rfl); (simp only [go_sem, hn1]; rfl); (simp only [go_sem, hn1]; rfl); (simp only [go_sem, hn1]; rfl); trivial; trivial; trivial; apply s_nil; simp only [AThen, ABlock]; refine hK _ _ ?_; clear hK K)
    refine cond_split (by simp only [go_sem]; try rfl) (fun hc => ?_) (fun hc => ?_)
    · (refine AWp_seq_k (fun K hK => ?_); apply s_region; apply s_call; decide; (simp only [go_sem]; rfl); (simp only [go_sem]; rfl); apply awake_c hS hKy; apply s_q; decide; rfl; (simp only [go_sem]; rfl); apply s_nil; simp only [AThen, ABlock]; refine hK _ _ ?_; clear hK K; apply AWp_ret; simp only [AThen, ABlock]; apply end_ret; rfl; simp only [AFr.get, reduceIte, Nat.reduceEqDiff])
      exact ⟨H, Ext.refl _, h⟩
    · cases hc
  | true =>
  have hl2 : l.length ≤ 1000 := Nat.le_trans (h30 rfl) (by decide)
  have hn1 : (!true) = false := rfl
  have hlf : ((firstL l).map Kn.cells).length = (firstL l).length := List.length_map _
  (apply s_gpure; decide; (simp only [go_sem, hn1, hlf]; rfl); (simp only [go_sem, hn1, hlf]; rfl); (simp only [go_sem, hn1, hlf]; rfl); trivial; (simp only [go_sem, hn1, hlf]; rfl); (simp only [go_sem, hn1, hlf]; rfl); (apply first_c false l (by omega); exact ⟨rfl, rfl⟩); (iterate 4 (apply s_spec; decide; rfl; rfl; (simp only [go_sem, hn1, hlf]; rfl); (simp only [go_sem, hn1, hlf]; rfl); (simp only [go_sem, hn1, hlf]; rfl); (simp only [go_sem, hn1, hlf]; rfl); trivial)); apply s_pick; decide; (simp only [go_sem, hn1, hlf]; rfl); (simp only [go_sem, hn1, hlf]; rfl); (simp only [go_sem, hn1, hlf]; rfl); (simp only [go_sem, hn1, hlf]; rfl); (simp only [go_sem, hn1, hlf]; rfl); (simp only [go_sem, hn1, hlf]; rfl); trivial; trivial; trivial; apply s_nil; simp only [AThen, ABlock]; refine hK _ _ ?_; clear hK K)
  refine cond_split (by simp only [go_sem]; try rfl) (fun hc => ?_) (fun hc => ?_)
  · (refine AWp_seq_k (fun K hK => ?_); apply s_region; apply s_call; decide; (simp only [go_sem]; rfl); (simp only [go_sem]; rfl); apply awake_c hS hKy; apply s_q; decide; rfl; (simp only [go_sem]; rfl); apply s_nil; simp only [AThen, ABlock]; refine hK _ _ ?_; clear hK K; apply AWp_ret; simp only [AThen, ABlock]; apply end_ret; rfl; simp only [AFr.get, reduceIte, Nat.reduceEqDiff])
    exact ⟨H, Ext.refl _, h⟩
  have hfl : (firstL l).length = l.length := by
    have h1 : (!decide (((firstL l).length : Int) = (l.length : Int))) = false := hc
    have h2 : ((firstL l).length : Int) = (l.length : Int) := by simpa using h1
    omega
  have hnd : (l.map (·.name)).Nodup := by
    have := firstL_nodup l
    rwa [firstL_full hfl] at this
  obtain ⟨s, hs⟩ : ∃ s, shiftN by_ l.length = s := ⟨_, rfl⟩
  (apply AWp_skip; simp only [AThen, ABlock]; refine hK _ _ ?_; clear hK K; refine AWp_seq_k (fun K hK => ?_); apply s_region; apply s_q; decide; rfl; (simp only [go_sem]; rfl); apply s_nil; simp only [AThen, ABlock]; refine hK _ _ ?_; clear hK K; (iterate 2 (refine AWp_seq_k (fun K hK => ?_))); apply s_region; apply s_q; decide; rfl; (simp only [go_sem]; rfl); apply s_nil; simp only [AThen, ABlock]; refine hK _ _ ?_; clear hK K; apply AWp_block)
  refine AWp_loop_s (σ := Nat × AV × AHeap) [0, 1, 2, 7, 8] (fun x => [.sl false (l.map Kn.cells), .s name, .v (.int .i64 by_), x.2.1, .v (.int .i64 x.1)]) (fun x => x.2.2) (fun x => l.length - x.1)
    (fun x => x.1 ≤ l.length ∧ Gr 35 17 H (((rotL l s).take x.1).map Kn.cells) x.2.1 x.2.2) (0, .sl true [], H) ⟨Nat.zero_le _, Gr.nil _ _ _⟩ rfl rfl (fun x hx => ?_)
  obtain ⟨i, a, L⟩ := x
  obtain ⟨hi, hG⟩ := hx
  simp only [List.zip_cons_cons, List.zip_nil_right] at hi hG ⊢
  ((iterate 2 (refine AWp_seq_k (fun K hK => ?_))); apply s_region; (iterate 4 (apply s_q; decide; rfl; (simp only [go_sem]; rfl))); apply s_nil; simp only [AThen, ABlock]; refine hK _ _ ?_; clear hK K)
  refine cond_split (by simp only [go_sem]; try rfl) (fun hd => ?_) (fun hd => ?_)
  · have hlt : i < l.length := by simpa using hd
    have hz : ((l.length : Int) = 0) = False := eq_false (by omega)
    obtain ⟨hs1, hs2, hs3, hs4⟩ := shift_ok by_ (n := l.length) (by omega)
    rw [hs] at hs1 hs2
    have hw1 : IntKind.i64.wrap (Int.tmod by_ l.length + l.length) = Int.tmod by_ l.length + l.length := wrap64 (by omega)
    have hw2 : IntKind.i64.wrap ((i : Int) + s) = (i : Int) + s := wrap64 (by omega)
    have hw3 : IntKind.i64.wrap (((i : Int) + s) * 1) = (i : Int) + s := by rw [Int.mul_one]; exact hw2
    have hp0 : (0 : Int) < l.length := by omega
    have hp1 : -(l.length : Int) < Int.tmod ((i : Int) + s) l.length := Int.lt_tmod_of_pos _ hp0
    have hp2 : Int.tmod ((i : Int) + s) l.length < l.length := Int.tmod_lt_of_pos _ hp0
    have hw4 : IntKind.i64.wrap (Int.tmod ((i : Int) + s) l.length + l.length) = Int.tmod ((i : Int) + s) l.length + l.length := wrap64 (by omega)
    have hpl := place_ok hs1 hlt
    have hml : (i + s) % l.length < l.length := Nat.mod_lt _ (by omega)
    obtain ⟨k, hk⟩ := gete hml
    have hgk := kn_at hk
    have hrk := (rot_at hs1 hlt).trans hk
    have hti : (rotL l s).take (i + 1) = (rotL l s).take i ++ [k] := take_succ hrk
    have hrl := rot_len l s
    (apply AWp_skip; simp only [AThen, ABlock]; refine hK _ _ ?_; clear hK K; refine AWp_seq_k (fun K hK => ?_); apply AWp_block; refine AWp_seq_k (fun K hK => ?_); apply s_region; (iterate 3 (apply s_q; decide; rfl; (simp only [go_sem, hz, hw1, hs2.symm, hw2, hw3, hw4, hpl, hgk]; rfl))); apply s_nil; simp only [AThen, ABlock]; refine hK _ _ ?_; clear hK K; apply s_region; (iterate 20 (apply s_q; decide; rfl; (simp only [go_sem, hz, hw1, hs2.symm, hw2, hw3, hw4, hpl, hgk]; rfl))); apply s_lit; decide; exact el_33; (simp only [go_sem, hz, hw1, hs2.symm, hw2, hw3, hw4, hpl, hgk]; rfl); (simp only [go_sem, hz, hw1, hs2.symm, hw2, hw3, hw4, hpl, hgk]; rfl); decide; apply s_append; decide; (simp only [go_sem, hz, hw1, hs2.symm, hw2, hw3, hw4, hpl, hgk]; rfl); (simp only [go_sem, hz, hw1, hs2.symm, hw2, hw3, hw4, hpl, hgk]; rfl); apply AApp_map el_33 hG (l := (rotL l s).take i) (m := [k]) (g := Kn.cells) rfl rfl tk_33 kn_one (by simp; omega) (by simp; omega); intro s1 H1 hG1; apply s_q; decide; rfl; (simp only [go_sem, hz, hw1, hs2.symm, hw2, hw3, hw4, hpl, hgk]; rfl); apply s_nil; simp only [AThen, ABlock]; refine hK _ _ ?_; clear hK K; apply s_region; (iterate 3 (apply s_q; decide; rfl; (simp only [go_sem, hz, hw1, hs2.symm, hw2, hw3, hw4, hpl, hgk]; rfl))); apply s_nil; simp only [AThen, ABlock])
    refine ⟨(i + 1, s1, H1), by simp only; omega, ⟨by simp only; omega, by simp only; rw [hti]; exact hG1⟩, ?_, by trivial⟩
    simp only [getAll, List.map_cons, List.map_nil, AFr.get, reduceIte, Nat.reduceEqDiff]
    rw [wrapS hlt (by omega)]; try rfl
  have hge : l.length ≤ i := by simpa using hd
  have hrl := rot_len l s
  rw [List.take_of_length_le (by omega)] at hG
  have hT : Turn l (rotL l s) := ⟨hnd, rot_perm l s⟩
  (apply AWp_exit; simp only [AThen, ABlock, reduceIte, Nat.reduceEqDiff]; clear hK K; refine hK _ _ ?_; clear hK K; (iterate 2 (refine AWp_seq_k (fun K hK => ?_))); apply s_region; apply s_q; decide; rfl; (simp only [go_sem]; rfl); apply s_nil; simp only [AThen, ABlock]; refine hK _ _ ?_; clear hK K; apply AWp_block)
  have hfin : ∀ (fr' : AFr) (T : List Kn) (a' : AV) (L' : AHeap), getAll [7, 0, 1] fr' = [a', .sl false (l.map Kn.cells), .s name] → Turn l T → Gr 35 17 H (T.map Kn.cells) a' L' → K fr' L' := by
    intro fr' T a' L' hfr hTu hGr
    refine hK _ _ (AWp_cut _ hfr ?_)
    clear hK
    simp only [List.zip_cons_cons, List.zip_nil_right]
    refine AWp_gr hGr (fun b => by simp only [AFr.snap, AV.snap, snap_kns]) ?_
    have hTl : T.length = l.length := hTu.2.length_eq
    have hokT : ∀ k ∈ T, k.Ok := fun k hk => hok k (hTu.2.mem_iff.1 hk)
    have hsnT : ∀ k ∈ T, k.ev.sender.length ≤ 4611686018427387904 := fun k hk => hsn k (hTu.2.mem_iff.1 hk)
    have hBt : ∀ (H : AHeap) (K : AV → AHeap → Prop), K (.tup [.s (bodyL l name).1, .v (.int .i64 (bodyL l name).2)]) H → ACall X 14 [.sl false (T.map Kn.cells), .s name] H K := fun H K hk => body_c false T name (by omega) hokT H K (by rw [hTu.body name]; exact hk)
    have hRt : ∀ (H : AHeap) (K : AV → AHeap → Prop), K (.sl false ((reactL l name).map Cnt.cells)) H → ACall X 16 [.sl false (T.map Kn.cells), .s name] H K := fun H K hk => reactions_c hS hKy false T name (by omega) hokT hsnT H K (by rw [hTu.react name]; exact hk)
    have hTt : ∀ (H : AHeap) (K : AV → AHeap → Prop), K (.agg [.v (.int .i64 (threadL l name).1), .s (threadL l name).2]) H → ACall X 20 [.sl false (T.map Kn.cells), .s name] H K := fun H K hk => thread_c false T name (by omega) hokT H K (by rw [hTu.thread name]; exact hk)
    have hcu : ∀ c ∈ reactL l name, c.users.length ≤ 1000000 := fun c hc => Nat.le_trans (react_users l name c hc) (by omega)
    have hcl : (reactL l name).length ≤ 1000000 := Nat.le_trans (react_len l name) (by omega)
    (refine AWp_seq_k (fun K hK => ?_); apply s_region; (iterate 2 (apply s_q; decide; rfl; (simp only [go_sem]; rfl))); apply s_call; decide; (simp only [go_sem]; rfl); (simp only [go_sem]; rfl); apply body_c false l name (by omega) hok; (iterate 5 (apply s_q; decide; rfl; (simp only [go_sem]; rfl))); apply s_nil; simp only [AThen, ABlock]; refine hK _ _ ?_; clear hK K; refine AWp_seq_k (fun K hK => ?_); apply s_region; (iterate 2 (apply s_q; decide; rfl; (simp only [go_sem]; rfl))); apply s_call; decide; (simp only [go_sem]; rfl); (simp only [go_sem]; rfl); apply hBt; (iterate 5 (apply s_q; decide; rfl; (simp only [go_sem]; rfl))); apply s_nil; simp only [AThen, ABlock]; refine hK _ _ ?_; clear hK K; refine AWp_seq_k (fun K hK => ?_); apply s_region; (iterate 4 (apply s_q; decide; rfl; (simp only [go_sem]; rfl))); (iterate 3 (apply s_spec; decide; rfl; rfl; (simp only [go_sem]; rfl); (simp only [go_sem]; rfl); (simp only [go_sem]; rfl); (simp only [go_sem]; rfl); trivial)); apply s_pick; decide; (simp only [go_sem]; rfl); (simp only [go_sem]; rfl); (simp only [go_sem]; rfl); (simp only [go_sem]; rfl); (simp only [go_sem]; rfl); (simp only [go_sem]; rfl); trivial; trivial; trivial; apply s_q; decide; rfl; (simp only [go_sem]; rfl); (iterate 2 (apply s_spec; decide; rfl; rfl; (simp only [go_sem]; rfl); (simp only [go_sem]; rfl); (simp only [go_sem]; rfl); (simp only [go_sem]; rfl); trivial)))
    (apply s_gpure; decide; (simp only [go_sem, eq_thread]; rfl); (simp only [go_sem, eq_thread]; rfl); (simp only [go_sem, eq_thread]; rfl); trivial; (simp only [go_sem, eq_thread]; rfl); (simp only [go_sem, eq_thread]; rfl); (apply reactions_c hS hKy false l name (by omega) hok hsn; exact ⟨rfl, rfl⟩); (iterate 2 (apply s_spec; decide; rfl; rfl; (simp only [go_sem, eq_thread]; rfl); (simp only [go_sem, eq_thread]; rfl); (simp only [go_sem, eq_thread]; rfl); (simp only [go_sem, eq_thread]; rfl); trivial)); apply s_gpure; decide; (simp only [go_sem, eq_thread]; rfl); (simp only [go_sem, eq_thread]; rfl); (simp only [go_sem, eq_thread]; rfl); trivial; (simp only [go_sem, eq_thread]; rfl); (simp only [go_sem, eq_thread]; rfl); (apply hRt; exact ⟨rfl, rfl⟩); apply s_gpure; decide; (simp only [go_sem, eq_thread]; rfl); (simp only [go_sem, eq_thread]; rfl); (simp only [go_sem, eq_thread]; rfl); trivial; (simp only [go_sem, eq_thread]; rfl); (simp only [go_sem, eq_thread]; rfl); (apply counts_c false false (reactL l name) hcl hcu; exact ⟨rfl, rfl⟩); apply s_pick; decide; (simp only [go_sem, eq_thread]; rfl); (simp only [go_sem, eq_thread]; rfl); (simp only [go_sem, eq_thread]; rfl); (simp only [go_sem, eq_thread]; rfl); (simp only [go_sem, eq_thread]; rfl); (simp only [go_sem, eq_thread]; rfl); trivial; trivial; trivial; apply s_q; decide; rfl; (simp only [go_sem, eq_thread]; rfl); (iterate 2 (apply s_spec; decide; rfl; rfl; (simp only [go_sem, eq_thread]; rfl); (simp only [go_sem, eq_thread]; rfl); (simp only [go_sem, eq_thread]; rfl); (simp only [go_sem, eq_thread]; rfl); trivial)); apply s_gpure; decide; (simp only [go_sem, eq_thread]; rfl); (simp only [go_sem, eq_thread]; rfl); (simp only [go_sem, eq_thread]; rfl); trivial; (simp only [go_sem, eq_thread]; rfl); (simp only [go_sem, eq_thread]; rfl); (apply thread_c false l name (by omega) hok; exact ⟨rfl, rfl⟩); (iterate 2 (apply s_spec; decide; rfl; rfl; (simp only [go_sem, eq_thread]; rfl); (simp only [go_sem, eq_thread]; rfl); (simp only [go_sem, eq_thread]; rfl); (simp only [go_sem, eq_thread]; rfl); trivial)); apply s_gpure; decide; (simp only [go_sem, eq_thread]; rfl); (simp only [go_sem, eq_thread]; rfl); (simp only [go_sem, eq_thread]; rfl); trivial; (simp only [go_sem, eq_thread]; rfl); (simp only [go_sem, eq_thread]; rfl); (apply hTt; exact ⟨rfl, rfl⟩); apply s_spec; decide; rfl; rfl; (simp only [go_sem, eq_thread]; rfl); (simp only [go_sem, eq_thread]; rfl); (simp only [go_sem, eq_thread]; rfl); (simp only [go_sem, eq_thread]; rfl); trivial; apply s_pick; decide; (simp only [go_sem, eq_thread]; rfl); (simp only [go_sem, eq_thread]; rfl); (simp only [go_sem, eq_thread]; rfl); (simp only [go_sem, eq_thread]; rfl); (simp only [go_sem, eq_thread]; rfl); (simp only [go_sem, eq_thread]; rfl); trivial; trivial; trivial; apply s_q; decide; rfl; (simp only [go_sem, eq_thread]; rfl); apply s_gpure; decide; (simp only [go_sem, eq_thread]; rfl); (simp only [go_sem, eq_thread]; rfl); (simp only [go_sem, eq_thread]; rfl); trivial; (simp only [go_sem, eq_thread]; rfl); (simp only [go_sem, eq_thread]; rfl); (apply awake_c hS hKy; exact ⟨rfl, rfl⟩); apply s_pick; decide; (simp only [go_sem, eq_thread]; rfl); (simp only [go_sem, eq_thread]; rfl); (simp only [go_sem, eq_thread]; rfl); (simp only [go_sem, eq_thread]; rfl); (simp only [go_sem, eq_thread]; rfl); (simp only [go_sem, eq_thread]; rfl); trivial; trivial; trivial; apply s_q; decide; rfl; (simp only [go_sem, eq_thread]; rfl); apply s_nil; simp only [AThen, ABlock]; refine hK _ _ ?_; clear hK K; apply AWp_ret)
    refine ⟨H, Ext.refl _, finB h ?_⟩
    simp
  rcases hG with ⟨rfl, hnil, rfl⟩ | ⟨bo, hbo, rfl, rfl⟩
  · have hTn : rotL l s = [] := by simpa using hnil
    refine AWp_loop_s (σ := Unit) [7, 0, 1, 10] (fun _ => [.sl true [], .sl false (l.map Kn.cells), .s name, .v (.int .i64 0)]) (fun _ => L) (fun _ => 0) (fun _ => True) () trivial rfl rfl (fun _ _ => ?_)
    simp only [List.zip_cons_cons, List.zip_nil_right]
    ((iterate 2 (refine AWp_seq_k (fun K hK => ?_))); apply s_region; (iterate 5 (apply s_q; decide; rfl; (simp only [go_sem]; rfl))); apply s_nil; simp only [AThen, ABlock]; refine hK _ _ ?_; clear hK K)
    refine cond_split (by simp only [go_sem]; try rfl) (fun hz => ?_) (fun hz => ?_)
    · exfalso; revert hz; decide
    (apply AWp_exit; simp only [AThen, ABlock, reduceIte, Nat.reduceEqDiff])
    exact hfin _ (rotL l s) _ _ rfl hT (by rw [hTn]; exact Gr.nil _ _ _)
  · have hln : ((rotL l s).map Kn.cells).length = l.length := by rw [List.length_map, hrl]
    rw [hln]
    refine AWp_loop_s (σ := Nat × List Kn) [7, 0, 1, 10] (fun x => [.row bo 17 l.length, .sl false (l.map Kn.cells), .s name, .v (.int .i64 x.1)]) (fun x => AHeap.put bo (.row 35 17 false (x.2.map Kn.cells)) H) (fun x => l.length - x.1)
      (fun x => x.1 ≤ l.length ∧ Turn l x.2) (0, rotL l s) ⟨Nat.zero_le _, hT⟩ rfl rfl (fun x hx => ?_)
    obtain ⟨j, T⟩ := x
    obtain ⟨hj, hTu⟩ := hx
    simp only [List.zip_cons_cons, List.zip_nil_right] at hj hTu ⊢
    have hTl : T.length = l.length := hTu.2.length_eq
    have hrow := AHeap.get_put_same bo (.row 35 17 false (T.map Kn.cells)) H
    have hEx : Ext H (AHeap.put bo (.row 35 17 false (T.map Kn.cells)) H) := Ext.fresh hbo
    generalize hD : AHeap.put bo (.row 35 17 false (T.map Kn.cells)) H = D at hrow hEx ⊢
    have hwj : IntKind.i64.wrap ((j : Int) + 1) = ((j + 1 : Nat) : Int) := by rw [wrap64 (by omega)]; omega
    ((iterate 2 (refine AWp_seq_k (fun K hK => ?_))); apply s_region; (iterate 5 (apply s_q; decide; rfl; (simp only [go_sem, hwj]; rfl))); apply s_nil; simp only [AThen, ABlock]; refine hK _ _ ?_; clear hK K)
    refine cond_split (by simp only [go_sem]; try rfl) (fun hz => ?_) (fun hz => ?_)
    · have hlt : j + 1 < l.length := by simp at hz; omega
      obtain ⟨a, ha⟩ := gete (l := T) (i := j) (by omega)
      obtain ⟨c, hc2⟩ := gete (l := T) (i := j + 1) (by omega)
      have hga := kn_at ha
      have hgc := kn_at hc2
      have hjI : (j : Int) < (l.length : Int) := by omega
      have hj1 : ((j + 1 : Nat) : Int) < (l.length : Int) := by omega
      (apply AWp_skip; simp only [AThen, ABlock]; refine hK _ _ ?_; clear hK K; refine AWp_seq_k (fun K hK => ?_); apply AWp_block)
      apply AWp_draw2H [0, 1, 2, 3, 4, 5, 6, 7, 8, 10, 11, 12, 14] [9, 13, 15, 16, 17] [13, 9, 15, 16, 17] 3 (hEx) (by exact mixed); kernel_rfl; (simp only [go_sem]; rfl); (simp only [go_sem]; rfl); (simp only [go_sem]; rfl)
      ((iterate 13 (apply e_q; decide; (simp only [go_sem, hwj, hjI, hj1]; rfl))); apply e_nil)
      have e1 := (List.map_set (f := Kn.cells) (l := T) (i := j) (a := c)).symm
      have e2 := (List.map_set (f := Kn.cells) (l := T.set j c) (i := j + 1) (a := a)).symm
      rw [Kn.cells] at e1 e2
      have hgc1 := kn_at (l := T.set j c) (i := j + 1) (k := c) (by rw [List.getElem?_set_ne (by omega)]; exact hc2)
      have hw2 : IntKind.i64.wrap ((j : Int) + 2) = ((j + 2 : Nat) : Int) := by rw [wrap64 (by omega)]; omega
      refine ⟨?_, ?_⟩
      · ((iterate 2 (apply t_q; decide; (simp only [go_sem, hrow, hga, hgc, hjI, hj1]; rfl); (intro _; assumption))); apply t_storex; (simp only [go_sem, hrow, hga, hgc, hjI, hj1]; rfl); (simp only [go_sem, hrow, hga, hgc, hjI, hj1]; rfl); (simp only [go_sem, hrow, hga, hgc, hjI, hj1]; rfl); (first | (intro _; exact Ext.put (Ext.refl _) (by assumption)) | (intro h; exact absurd h (by decide)) | (intro _; exact Ext.put (by assumption) (by assumption)) | (intro _; refine Ext.over (c := _) ?_ ?_ <;> assumption)); apply t_q; decide; (simp only [go_sem, hrow, hga, hgc, hjI, hj1]; rfl); (intro h; exact absurd h (by decide)))
        rw [e1]
        have hrow1 := AHeap.get_put_same bo (.row 35 17 false ((T.set j c).map Kn.cells)) D
        generalize hD1 : AHeap.put bo (.row 35 17 false ((T.set j c).map Kn.cells)) D = D1 at hrow1 ⊢
        (apply t_storex; (simp only [go_sem, hrow1, hgc1]; rfl); (simp only [go_sem, hrow1, hgc1]; rfl); (simp only [go_sem, hrow1, hgc1]; rfl); (first | (intro _; exact Ext.put (Ext.refl _) (by assumption)) | (intro h; exact absurd h (by decide)) | (intro _; exact Ext.put (by assumption) (by assumption)) | (intro _; refine Ext.over (c := _) ?_ ?_ <;> assumption)); apply t_nil; simp only [AThen, ABlock]; refine hK _ _ ?_; clear hK K; apply s_region; (iterate 3 (apply s_q; decide; rfl; (simp only [go_sem, hrow1, hgc1]; rfl))); apply s_nil; simp only [AThen, ABlock])
        refine ⟨(j + 2, (T.set j c).set (j + 1) a), by simp only; omega, ⟨by simp only; omega, hTu.1, (swap_perm ha hc2).trans hTu.2⟩, ?_, ?_⟩
        · simp only [getAll, List.map_cons, List.map_nil, AFr.get, reduceIte, Nat.reduceEqDiff]
          rw [hw2]; try rfl
        · rw [e2, ← hD1, ← hD]
          simp only [AHeap.put_put]
      · ((iterate 2 (apply t_q; decide; (simp only [go_sem, hrow, hga, hgc, hjI, hj1]; rfl); (intro _; assumption))); apply t_storex; (simp only [go_sem, hrow, hga, hgc, hjI, hj1]; rfl); (simp only [go_sem, hrow, hga, hgc, hjI, hj1]; rfl); (simp only [go_sem, hrow, hga, hgc, hjI, hj1]; rfl); (first | (intro _; exact Ext.put (Ext.refl _) (by assumption)) | (intro h; exact absurd h (by decide)) | (intro _; exact Ext.put (by assumption) (by assumption)) | (intro _; refine Ext.over (c := _) ?_ ?_ <;> assumption)); apply t_q; decide; (simp only [go_sem, hrow, hga, hgc, hjI, hj1]; rfl); (intro h; exact absurd h (by decide)))
        rw [e1]
        have hrow1 := AHeap.get_put_same bo (.row 35 17 false ((T.set j c).map Kn.cells)) D
        generalize hD1 : AHeap.put bo (.row 35 17 false ((T.set j c).map Kn.cells)) D = D1 at hrow1 ⊢
        (apply t_storex; (simp only [go_sem, hrow1, hgc1]; rfl); (simp only [go_sem, hrow1, hgc1]; rfl); (simp only [go_sem, hrow1, hgc1]; rfl); (first | (intro _; exact Ext.put (Ext.refl _) (by assumption)) | (intro h; exact absurd h (by decide)) | (intro _; exact Ext.put (by assumption) (by assumption)) | (intro _; refine Ext.over (c := _) ?_ ?_ <;> assumption)); apply t_nil; simp only [AThen, ABlock]; refine hK _ _ ?_; clear hK K; apply s_region; (iterate 3 (apply s_q; decide; rfl; (simp only [go_sem, hrow1, hgc1]; rfl))); apply s_nil; simp only [AThen, ABlock])
        refine ⟨(j + 2, (T.set j c).set (j + 1) a), by simp only; omega, ⟨by simp only; omega, hTu.1, (swap_perm ha hc2).trans hTu.2⟩, ?_, ?_⟩
        · simp only [getAll, List.map_cons, List.map_nil, AFr.get, reduceIte, Nat.reduceEqDiff]
          rw [hw2]; try rfl
        · rw [e2, ← hD1, ← hD]
          simp only [AHeap.put_put]
    · subst hD
      (apply AWp_exit; simp only [AThen, ABlock, reduceIte, Nat.reduceEqDiff])
      have hlm : (T.map Kn.cells).length = l.length := by rw [List.length_map, hTl]
      exact hfin _ T _ _ rfl hTu (.inr ⟨bo, hbo, by rw [hlm]; rfl, rfl⟩)
end Go.Proofs.Ytmloandpjbimkaa
