/-
  The document's First and later. Contracts.
-/
import Derived.Test.YtmloandpjbimkaaW25D
set_option linter.unusedSimpArgs false
set_option linter.unusedVariables false
set_option maxRecDepth 100000
namespace Go.Proofs.Ytmloandpjbimkaa
open Go Go.AL
attribute [local irreducible] AOps AWp SOps AE AT ACall AApp

theorem later_c (a b : Kn) (H : AHeap) (K : AV → AHeap → Prop) (h : K (.v (.bool (later a b))) H) : ACall X 44 [.agg a.cells, .agg b.cells] H K := by
  refine ACall.drop ?_
  rw [Kn.cells, Kn.cells]
  refine ACall_intro Try.func44 rfl (by kernel_rfl) (by rw [Try.ntmps44]; simp) ?_; rw [Try.ntmps44]; simp only [frame0, Nat.reduceAdd]
  refine AWp_seq_k (fun K hK => ?_); apply s_region
  apply s_box; decide; exact (by simp only [go_sem]; try rfl); exact (by simp only [go_sem]; try rfl); intro p2 hp2
  generalize hgenq : AHeap.put p2 _ H = M; obtain ⟨g2, hextq⟩ := gen_ex hgenq hp2; have hE := hextq; clear hextq hgenq
  apply s_box; decide; exact (by simp only [go_sem]; try rfl); exact (by simp only [go_sem]; try rfl); intro p3 hp3
  generalize hgenq : AHeap.put p3 _ M = M2; obtain ⟨g3, hextq⟩ := gen_ex hgenq hp3; have g2 := hextq _ _ g2; have hE := Ext.trans hE hextq; clear hextq hgenq
  (apply s_q; decide; rfl; (simp only [go_sem, g2, g3]; rfl); apply s_nil; simp only [AThen, ABlock]; refine hK _ _ ?_; clear hK K; (iterate 2 (refine AWp_seq_k (fun K hK => ?_))); apply s_region; (iterate 7 (apply s_q; decide; rfl; (simp only [go_sem, g2, g3]; rfl))); apply s_nil; simp only [AThen, ABlock]; refine hK _ _ ?_; clear hK K)
  refine cond_split (by simp only [go_sem]; try rfl) (fun hc => ?_) (fun hc => ?_)
  · have hne : ¬ a.ev.ts = b.ev.ts := by simpa using hc
    (refine AWp_seq_k (fun K hK => ?_); apply s_region; (iterate 8 (apply s_q; decide; rfl; (simp only [go_sem, g2, g3]; rfl))); apply s_nil; simp only [AThen, ABlock]; refine hK _ _ ?_; clear hK K; apply AWp_ret; simp only [AThen, ABlock]; apply end_ret; rfl; simp only [AFr.get, reduceIte, Nat.reduceEqDiff])
    refine ⟨H, hE, finB h ?_⟩
    simp [later, hne]
  · have he : a.ev.ts = b.ev.ts := by simpa using hc
    (apply AWp_skip; simp only [AThen, ABlock]; refine hK _ _ ?_; clear hK K; refine AWp_seq_k (fun K hK => ?_); apply s_region; (iterate 6 (apply s_q; decide; rfl; (simp only [go_sem, g2, g3]; rfl))); apply s_nil; simp only [AThen, ABlock]; refine hK _ _ ?_; clear hK K; apply AWp_ret)
    refine ⟨H, hE, finB h ?_⟩
    rw [gtr_eq]
    simp [later, he]
theorem any_take {p : Kn → Bool} {l : List Kn} {k : Nat} {d : Kn} (h : l[k]? = some d) : (l.take (k + 1)).any p = ((l.take k).any p || p d) := by
  rw [take_succ h, List.any_append]; simp
set_option maxHeartbeats 2000000 in
theorem first_c (t : Bool) (l : List Kn) (hl : l.length ≤ 1000000) (H : AHeap) (K : AV → AHeap → Prop) (h : K (.sl false ((firstL l).map Kn.cells)) H) : ACall X 22 [.sl t (l.map Kn.cells)] H K := by
  refine ACall.gr (e := 35) (sz := 17) h ?_
  refine ACall_intro Try.func22 rfl (by kernel_rfl) (by rw [Try.ntmps22]; simp) ?_; rw [Try.ntmps22]; simp only [frame0, Nat.reduceAdd]
  (refine AWp_seq_k (fun K hK => ?_); apply s_region; apply s_q; decide; rfl; (simp only [go_sem]; rfl); apply s_nil; simp only [AThen, ABlock]; refine hK _ _ ?_; clear hK K; refine AWp_seq_k (fun K hK => ?_); apply s_region; apply s_q; decide; rfl; (simp only [go_sem]; rfl); apply s_nil; simp only [AThen, ABlock]; refine hK _ _ ?_; clear hK K; (iterate 2 (refine AWp_seq_k (fun K hK => ?_))); apply s_region; apply s_q; decide; rfl; (simp only [go_sem]; rfl); apply s_nil; simp only [AThen, ABlock]; refine hK _ _ ?_; clear hK K; apply AWp_block)
  refine AWp_loop_s (σ := Nat × AV × AHeap) [0, 3, 4] (fun s => [.sl t (l.map Kn.cells), s.2.1, .v (.int .i64 s.1)]) (fun s => s.2.2) (fun s => l.length - s.1)
    (fun s => s.1 ≤ l.length ∧ Gr 35 17 H ((firstL (l.take s.1)).map Kn.cells) s.2.1 s.2.2) (0, .sl true [], H) ⟨Nat.zero_le _, Gr.nil _ _ _⟩ rfl rfl (fun s hs => ?_)
  obtain ⟨i, a, L⟩ := s
  obtain ⟨hi, hG⟩ := hs
  simp only [List.zip_cons_cons, List.zip_nil_right] at hi hG ⊢
  ((iterate 2 (refine AWp_seq_k (fun K hK => ?_))); apply s_region; (iterate 4 (apply s_q; decide; rfl; (simp only [go_sem]; rfl))); apply s_nil; simp only [AThen, ABlock]; refine hK _ _ ?_; clear hK K)
  refine cond_split (by simp only [go_sem]; try rfl) (fun hd => ?_) (fun hd => ?_)
  · have hlt : i < l.length := by simpa using hd
    obtain ⟨c, hcm⟩ := gete hlt
    have hgc := kn_at hcm
    have hfs := firstL_snoc hcm
    obtain ⟨F, hF⟩ : ∃ F, firstL (l.take i) = F := ⟨_, rfl⟩
    rw [hF] at hG hfs
    have hFl : F.length ≤ 1000000 := by
      have := firstL_len (l.take i)
      rw [hF, List.length_take] at this; omega
    have hend : ∀ (fr' : AFr), getAll [0, 3, 4, 5] fr' = [.sl t (l.map Kn.cells), a, .v (.int .i64 i), .v (.bool (F.any fun x => decide (x.name = c.name)))] → True := fun _ _ => trivial
    rcases hG with ⟨rfl, hnil, rfl⟩ | ⟨bo, hbo, rfl, rfl⟩
    · have hFn : F = [] := by simpa using hnil
      subst hFn
      (apply AWp_skip; simp only [AThen, ABlock]; refine hK _ _ ?_; clear hK K; refine AWp_seq_k (fun K hK => ?_); apply AWp_block; refine AWp_seq_k (fun K hK => ?_); apply s_region; apply s_q; decide; rfl; (simp only [go_sem]; rfl); apply s_nil; simp only [AThen, ABlock]; refine hK _ _ ?_; clear hK K; (iterate 2 (refine AWp_seq_k (fun K hK => ?_))); apply s_region; apply s_q; decide; rfl; (simp only [go_sem]; rfl); apply s_nil; simp only [AThen, ABlock]; refine hK _ _ ?_; clear hK K; apply AWp_block)
      refine AWp_loop_s (σ := Nat) [0, 3, 4, 5, 6] (fun k => [.sl t (l.map Kn.cells), .sl true [], .v (.int .i64 i), .v (.bool false), .v (.int .i64 0)]) (fun _ => L) (fun k => 0) (fun k => True) 0 trivial rfl rfl (fun k hk => ?_)
      simp only [List.zip_cons_cons, List.zip_nil_right]
      ((iterate 2 (refine AWp_seq_k (fun K hK => ?_))); apply s_region; (iterate 4 (apply s_q; decide; rfl; (simp only [go_sem]; rfl))); apply s_nil; simp only [AThen, ABlock]; refine hK _ _ ?_; clear hK K)
      refine cond_split (by simp only [go_sem]; try rfl) (fun he => ?_) (fun he => ?_)
      · simp at he
      (apply AWp_exit; simp only [AThen, ABlock, reduceIte, Nat.reduceEqDiff]; clear hK K; refine hK _ _ ?_; clear hK K; refine AWp_seq_k (fun K hK => ?_); apply s_region; (iterate 2 (apply s_q; decide; rfl; (simp only [go_sem]; rfl))); apply s_nil; simp only [AThen, ABlock]; refine hK _ _ ?_; clear hK K)
      refine cond_split (by simp only [go_sem]; try rfl) (fun hf => ?_) (fun hf => ?_)
      rotate_left
      · cases hf
      (apply s_region; (iterate 5 (apply s_q; decide; rfl; (simp only [go_sem, hgc]; rfl))); apply s_lit; decide; exact el_33; (simp only [go_sem, hgc]; rfl); (simp only [go_sem, hgc]; rfl); decide; apply s_append; decide; (simp only [go_sem, hgc]; rfl); (simp only [go_sem, hgc]; rfl); apply AApp_map el_33 (Gr.nil _ _ _) (l := []) (m := [c]) (g := Kn.cells) rfl rfl tk_33 kn_one (by simp) (by simp); intro s1 H1 hG1; apply s_q; decide; rfl; (simp only [go_sem, hgc]; rfl); apply s_nil; simp only [AThen, ABlock]; refine hK _ _ ?_; clear hK K; apply s_region; (iterate 3 (apply s_q; decide; rfl; (simp only [go_sem, hgc]; rfl))); apply s_nil; simp only [AThen, ABlock])
      refine ⟨(i + 1, s1, H1), by simp only; omega, ⟨by simp only; omega, by simp only; rw [hfs]; exact hG1⟩, ?_, by trivial⟩
      simp only [getAll, List.map_cons, List.map_nil, AFr.get, reduceIte, Nat.reduceEqDiff]
      rw [wrapS hlt (by omega)]; try rfl
    · have hrow := AHeap.get_put_same bo (.row 35 17 false (F.map Kn.cells)) H
      have hG : Gr 35 17 H (F.map Kn.cells) (.row bo 17 (F.map Kn.cells).length) (H.put bo (.row 35 17 false (F.map Kn.cells))) := .inr ⟨bo, hbo, rfl, rfl⟩
      generalize H.put bo (.row 35 17 false (F.map Kn.cells)) = L at hrow hG ⊢
      have hln : (F.map Kn.cells).length = F.length := List.length_map _
      rw [hln] at hG ⊢
      (apply AWp_skip; simp only [AThen, ABlock]; refine hK _ _ ?_; clear hK K; refine AWp_seq_k (fun K hK => ?_); apply AWp_block; refine AWp_seq_k (fun K hK => ?_); apply s_region; apply s_q; decide; rfl; (simp only [go_sem]; rfl); apply s_nil; simp only [AThen, ABlock]; refine hK _ _ ?_; clear hK K; (iterate 2 (refine AWp_seq_k (fun K hK => ?_))); apply s_region; apply s_q; decide; rfl; (simp only [go_sem]; rfl); apply s_nil; simp only [AThen, ABlock]; refine hK _ _ ?_; clear hK K; apply AWp_block)
      refine AWp_loop_s (σ := Nat) [0, 3, 4, 5, 6] (fun k => [.sl t (l.map Kn.cells), .row bo 17 F.length, .v (.int .i64 i), .v (.bool ((F.take k).any fun x => decide (x.name = c.name))), .v (.int .i64 k)]) (fun _ => L) (fun k => F.length - k) (fun k => k ≤ F.length) 0 (Nat.zero_le _) rfl rfl (fun k hk => ?_)
      simp only [List.zip_cons_cons, List.zip_nil_right]
      ((iterate 2 (refine AWp_seq_k (fun K hK => ?_))); apply s_region; (iterate 4 (apply s_q; decide; rfl; (simp only [go_sem]; rfl))); apply s_nil; simp only [AThen, ABlock]; refine hK _ _ ?_; clear hK K)
      refine cond_split (by simp only [go_sem]; try rfl) (fun he => ?_) (fun he => ?_)
      · have hki : k < F.length := by simpa using he
        obtain ⟨x, hxm⟩ := gete hki
        have hgx := kn_at hxm
        (apply AWp_skip; simp only [AThen, ABlock]; refine hK _ _ ?_; clear hK K; refine AWp_seq_k (fun K hK => ?_); apply AWp_block)
        apply AWp_drawA [0, 1, 2, 3, 4, 5, 6, 7, 8, 9, 10, 11, 12, 13, 14] [] 0 (by exact mixed); kernel_rfl; (simp only [go_sem]; rfl); (simp only [go_sem]; rfl)
        have hkI : (k : Int) < (F.length : Int) := by omega
        ((iterate 2 (apply e_q; decide; (simp only [go_sem, hgc, hgx, hrow]; rfl))); (iterate 2 (apply e_spec; decide; (simp only [go_sem, hgc, hgx, hrow]; rfl); (simp only [go_sem, hgc, hgx, hrow]; rfl); (simp only [go_sem, hgc, hgx, hrow]; rfl); (simp only [go_sem, hgc, hgx, hrow]; rfl); trivial)); apply e_when; decide; (simp only [go_sem, hgc, hgx, hrow]; rfl); (simp only [go_sem, hgc, hgx, hrow]; rfl); (simp only [go_sem, hgc, hgx, hrow]; rfl); simp [condsOk]; (intro hg; (first | ((focus (simp only [go_sem, hgc]; (try rfl); done))) | ((focus (simp only [go_sem, hkI]; (try rfl); done))))); (iterate 2 (apply e_spec; decide; (simp only [go_sem, hgc, hgx, hrow]; rfl); (simp only [go_sem, hgc, hgx, hrow]; rfl); (simp only [go_sem, hgc, hgx, hrow]; rfl); (simp only [go_sem, hgc, hgx, hrow]; rfl); simp [condsOk])); (iterate 2 (apply e_spec; decide; (simp only [go_sem, hgc, hgx, hrow]; rfl); (simp only [go_sem, hgc, hgx, hrow]; rfl); (simp only [go_sem, hgc, hgx, hrow]; rfl); (simp only [go_sem, hgc, hgx, hrow]; rfl); trivial)); (iterate 4 (apply e_spec; decide; (simp only [go_sem, hgc, hgx, hrow]; rfl); (simp only [go_sem, hgc, hgx, hrow]; rfl); (simp only [go_sem, hgc, hgx, hrow]; rfl); (simp only [go_sem, hgc, hgx, hrow]; rfl); simp [condsOk])); apply e_pick; decide; (simp only [go_sem, hgc, hgx, hrow]; rfl); (simp only [go_sem, hgc, hgx, hrow]; rfl); (simp only [go_sem, hgc, hgx, hrow]; rfl); (simp only [go_sem, hgc, hgx, hrow]; rfl); (simp only [go_sem, hgc, hgx, hrow]; rfl); (simp only [go_sem, hgc, hgx, hrow]; rfl); trivial; trivial; simp [condsOk]; apply e_q; decide; (simp only [go_sem, hgc, hgx, hrow]; rfl); apply e_nil; apply t_nil; simp only [AThen, ABlock]; refine hK _ _ ?_; clear hK K; apply s_region; (iterate 3 (apply s_q; decide; rfl; (simp only [go_sem, hgc, hgx, hrow]; rfl))); apply s_nil; simp only [AThen, ABlock])
        refine ⟨k + 1, by omega, by omega, ?_, by trivial⟩
        simp only [getAll, List.map_cons, List.map_nil, AFr.get, reduceIte, Nat.reduceEqDiff]
        rw [wrapS hki (by omega), any_take hxm]
        cases (F.take k).any (fun x => decide (x.name = c.name)) <;> rfl
      · have hge : F.length ≤ k := by simpa using he
        rw [List.take_of_length_le hge]
        cases hany : F.any (fun x => decide (x.name = c.name)) with
        | true =>
          rw [fstep, hany, if_pos rfl] at hfs
          (apply AWp_exit; simp only [AThen, ABlock, reduceIte, Nat.reduceEqDiff]; clear hK K; refine hK _ _ ?_; clear hK K; refine AWp_seq_k (fun K hK => ?_); apply s_region; (iterate 2 (apply s_q; decide; rfl; (simp only [go_sem]; rfl))); apply s_nil; simp only [AThen, ABlock]; refine hK _ _ ?_; clear hK K)
          refine cond_split (by simp only [go_sem]; try rfl) (fun hf => ?_) (fun hf => ?_)
          · cases hf
          (apply AWp_skip; simp only [AThen, ABlock]; refine hK _ _ ?_; clear hK K; apply s_region; (iterate 3 (apply s_q; decide; rfl; (simp only [go_sem]; rfl))); apply s_nil; simp only [AThen, ABlock])
          refine ⟨(i + 1, .row bo 17 F.length, L), by simp only; omega, ⟨by simp only; omega, by simp only; rw [hfs]; exact hG⟩, ?_, by trivial⟩
          simp only [getAll, List.map_cons, List.map_nil, AFr.get, reduceIte, Nat.reduceEqDiff]
          rw [wrapS hlt (by omega)]; try rfl
        | false =>
          rw [fstep, hany, if_neg (by simp)] at hfs
          (apply AWp_exit; simp only [AThen, ABlock, reduceIte, Nat.reduceEqDiff]; clear hK K; refine hK _ _ ?_; clear hK K; refine AWp_seq_k (fun K hK => ?_); apply s_region; (iterate 2 (apply s_q; decide; rfl; (simp only [go_sem]; rfl))); apply s_nil; simp only [AThen, ABlock]; refine hK _ _ ?_; clear hK K)
          refine cond_split (by simp only [go_sem]; try rfl) (fun hf => ?_) (fun hf => ?_)
          rotate_left
          · cases hf
          (apply s_region; (iterate 5 (apply s_q; decide; rfl; (simp only [go_sem, hgc]; rfl))); apply s_lit; decide; exact el_33; (simp only [go_sem, hgc]; rfl); (simp only [go_sem, hgc]; rfl); decide; apply s_append; decide; (simp only [go_sem, hgc]; rfl); (simp only [go_sem, hgc]; rfl); apply AApp_map el_33 hG (l := F) (m := [c]) (g := Kn.cells) rfl rfl tk_33 kn_one (by simp; omega) (by simp; omega); intro s1 H1 hG1; apply s_q; decide; rfl; (simp only [go_sem, hgc]; rfl); apply s_nil; simp only [AThen, ABlock]; refine hK _ _ ?_; clear hK K; apply s_region; (iterate 3 (apply s_q; decide; rfl; (simp only [go_sem, hgc]; rfl))); apply s_nil; simp only [AThen, ABlock])
          refine ⟨(i + 1, s1, H1), by simp only; omega, ⟨by simp only; omega, by simp only; rw [hfs]; exact hG1⟩, ?_, by trivial⟩
          simp only [getAll, List.map_cons, List.map_nil, AFr.get, reduceIte, Nat.reduceEqDiff]
          rw [wrapS hlt (by omega)]; try rfl
  · have hge : l.length ≤ i := by simpa using hd
    (apply AWp_exit; simp only [AThen, ABlock, reduceIte, Nat.reduceEqDiff]; clear hK K; refine hK _ _ ?_; clear hK K; refine AWp_seq_k (fun K hK => ?_); apply s_region; (iterate 2 (apply s_q; decide; rfl; (simp only [go_sem]; rfl))); apply s_nil; simp only [AThen, ABlock]; refine hK _ _ ?_; clear hK K; apply AWp_ret)
    rw [List.take_of_length_le hge] at hG
    exact ⟨H, Ext.refl H, hG⟩
end Go.Proofs.Ytmloandpjbimkaa
