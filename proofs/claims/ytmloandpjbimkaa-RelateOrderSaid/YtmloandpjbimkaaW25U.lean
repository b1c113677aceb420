/-
  RelateCounts: walked.
-/
import Derived.Test.YtmloandpjbimkaaW25T
set_option linter.unusedSimpArgs false
set_option linter.unusedVariables false
set_option maxRecDepth 100000
namespace Go.Proofs.Ytmloandpjbimkaa
open Go Go.AL
attribute [local irreducible] AOps AWp SOps AE AT ACall AApp

theorem usersAt_react (l : List Kn) (name key : List UInt8) : usersAt (reactL l name) key = sendersOf (aboutL l kReact name) key := by
  unfold usersAt
  cases hf : (reactL l name).find? (fun c => decide (c.key = key)) with
  | some c =>
    have hm := List.mem_of_find?_eq_some hf
    have hk : c.key = key := by simpa using List.find?_some hf
    rw [reactL, (sortC_perm _).mem_iff, cntsOf] at hm
    obtain ⟨q, _, rfl⟩ := List.mem_map.1 hm
    subst hk; rfl
  | none =>
    refine (senders_nil fun hk => ?_).symm
    rw [List.find?_eq_none] at hf
    have hm : (⟨key, sendersOf (aboutL l kReact name) key⟩ : Cnt) ∈ reactL l name := by
      rw [reactL, (sortC_perm _).mem_iff, cntsOf]
      exact List.mem_map.2 ⟨key, hk, rfl⟩
    exact hf _ hm (by simp)
theorem insL_len {l : List (List UInt8)} {s : List UInt8} (h : Rising l) : (insL l s).length = l.length + (if s ∈ l then 0 else 1) := by
  split
  · rename_i hs
    rw [rising_eq (insL_rising h) h (fun x => by rw [insL_mem]; exact ⟨fun h2 => h2.elim (fun e => e ▸ hs) id, .inr⟩)]; rfl
  · rename_i hs
    have : (insL l s).Perm (s :: l) := nodup_perm (rising_nodup (insL_rising h)) (List.nodup_cons.2 ⟨hs, rising_nodup h⟩) (fun x => by rw [insL_mem, List.mem_cons])
    rw [this.length_eq]; rfl
theorem counts_more {l : List Kn} {name : List UInt8} {x : Kn} (h : ∀ k ∈ l, k.name ≠ x.name) (h1 : (relOf x.ev).1 = kReact) (h2 : (relOf x.ev).2.1 = name) :
    (usersAt (reactL (l ++ [x]) name) (rkey x)).length = (usersAt (reactL l name) (rkey x)).length + (if x.ev.sender ∈ usersAt (reactL l name) (rkey x) then 0 else 1) := by
  have ha : isAbout kReact name x = true := by rw [isAbout, h1, h2]; simp
  rw [usersAt_react, usersAt_react, about_fresh h, ha, if_pos rfl, senders_step]
  exact insL_len (show Rising (sendersOf _ _) from sortL_rising (dedup_ok _).1)
set_option maxHeartbeats 8000000 in
theorem relateCounts_c (hS : HSort) (hKy : HKeys) (l : List Kn) (hl : l.length ≤ 4611686018427387904) (hw : ∀ k ∈ l, k.Wide) (name : List UInt8) (x : Kn) (hx : x.Wide) (H : AHeap) (K : AV → AHeap → Prop) (h : K (.v (.bool true)) H) : ACall X 5 [.sl false (l.map Kn.cells), .s name, .agg x.cells] H K := by
  refine ACall.drop ?_
  have hok : ∀ k ∈ l, k.Ok := fun k hk => (hw k hk).1
  have hsn : ∀ k ∈ l, k.ev.sender.length ≤ 4611686018427387904 := fun k hk => (hw k hk).2.2.2.2
  have hF1 : ∀ (t : Bool) (H : AHeap) (K : AV → AHeap → Prop), (∀ b : Bool, K (.v (.bool b)) H) → ACall X 13 [.sl t [x.cells], .s []] H K := fun t H K hk => few25_c t [x] (by simp) (fun k hk => by simp at hk; subst hk; exact hx) [] H K (fun b _ => hk b)
  obtain ⟨r1, r2, hr⟩ : ∃ r1 r2, relOf x.ev = (r1, r2, rkey x) := ⟨_, _, rfl⟩
  have hOf : ∀ (H : AHeap) (K : AV → AHeap → Prop), K (.tup [.s r1, .s r2, .s (rkey x)]) H → ACall X 10 [.agg x.ev.cells] H K := fun H K hk => of_c25 x.ev hx.1 H K (by rw [hr]; exact hk)
  rw [Kn.cells] at hF1 ⊢
  refine ACall_intro Try.func5 rfl (by kernel_rfl) (by rw [Try.ntmps5]; simp) ?_; rw [Try.ntmps5]; simp only [frame0, Nat.reduceAdd]
  refine AWp_seq_k (fun K hK => ?_); apply s_region
  apply s_box; decide; exact (by simp only [go_sem]; try rfl); exact (by simp only [go_sem]; try rfl); intro p5 hp5
  (apply s_q; decide; rfl; (simp only [go_sem]; rfl); apply s_nil; simp only [AThen, ABlock]; refine hK _ _ ?_; clear hK K; (iterate 2 (refine AWp_seq_k (fun K hK => ?_))); apply s_region; (iterate 2 (apply s_q; decide; rfl; (simp only [go_sem]; rfl))))
  generalize hgenq : AHeap.put p5 _ H = M; obtain ⟨g5, hextq⟩ := gen_ex hgenq hp5; have hE := hextq; clear hextq hgenq
  (apply s_call; decide; (simp only [go_sem, g5]; rfl); (simp only [go_sem, g5]; rfl); apply few25_c false l hl hw name; intro b1 h30; (iterate 2 (apply s_q; decide; rfl; (simp only [go_sem, g5]; rfl))); apply s_spec; decide; rfl; rfl; (simp only [go_sem, g5]; rfl); (simp only [go_sem, g5]; rfl); (simp only [go_sem, g5]; rfl); (simp only [go_sem, g5]; rfl); trivial; apply s_glit; decide; (simp only [go_sem, g5]; rfl); (simp only [go_sem, g5]; rfl); (simp only [go_sem, g5]; rfl); simp [condsOk]; exact el_33; (simp only [go_sem, g5]; rfl); (simp only [go_sem, g5]; rfl); decide)
  cases b1 with
  | false =>
    have hn1 : (!false) = true := rfl
    (apply s_when (av := (.v (.bool false))); decide; (simp only [go_sem, g5, hn1]; rfl); (simp only [go_sem, g5, hn1]; rfl); (simp only [go_sem, g5, hn1]; rfl); trivial; (focus (intro hg; first | (cases hg; done) | (simp at hg; done))); apply s_spec; decide; rfl; rfl; (simp only [go_sem, g5, hn1]; rfl); (simp only [go_sem, g5, hn1]; rfl); (simp only [go_sem, g5, hn1]; rfl); (simp only [go_sem, g5, hn1]; rfl); trivial; apply s_pick; decide; (simp only [go_sem, g5, hn1]; rfl); (simp only [go_sem, g5, hn1]; rfl); (simp only [go_sem, g5, hn1]; rfl); (simp only [go_sem, g5, hn1]; rfl); (simp only [go_sem, g5, hn1]; rfl); (simp only [go_sem, g5, hn1]; rfl); trivial; trivial; trivial; apply s_nil; simp only [AThen, ABlock]; refine hK _ _ ?_; clear hK K)
    refine cond_split (by simp only [go_sem]; try rfl) (fun hc => ?_) (fun hc => ?_)
    · (refine AWp_seq_k (fun K hK => ?_); apply s_region; apply s_q; decide; rfl; (simp only [go_sem]; rfl); apply s_nil; simp only [AThen, ABlock]; refine hK _ _ ?_; clear hK K; apply AWp_ret; simp only [AThen, ABlock]; apply end_ret; rfl; simp only [AFr.get, reduceIte, Nat.reduceEqDiff])
      exact ⟨H, hE, h⟩
    · cases hc
  | true =>
  have hl2 : l.length ≤ 1000 := Nat.le_trans (h30 rfl) (by decide)
  have hn1 : (!true) = false := rfl
  skip
  apply s_ycall; decide; (simp only [go_sem, hn1]; rfl); simp only [go_sem, hn1]; (simp only [go_sem, hn1]; rfl); trivial; (simp only [go_sem, hn1]; rfl); (simp only [go_sem, hn1]; rfl); (simp only [go_sem, hn1]; rfl); apply hF1; intro b3
  (apply s_spec; decide; rfl; rfl; (simp only [go_sem, hn1]; rfl); (simp only [go_sem, hn1]; rfl); (simp only [go_sem, hn1]; rfl); (simp only [go_sem, hn1]; rfl); trivial; apply s_pick; decide; (simp only [go_sem, hn1]; rfl); (simp only [go_sem, hn1]; rfl); (simp only [go_sem, hn1]; rfl); (simp only [go_sem, hn1]; rfl); (simp only [go_sem, hn1]; rfl); (simp only [go_sem, hn1]; rfl); trivial; trivial; trivial)
  apply s_nil; simp only [AThen, ABlock]; refine hK _ _ ?_; clear hK K
  refine cond_split (by simp only [go_sem]; try rfl) (fun hc => ?_) (fun hc => ?_)
  · (refine AWp_seq_k (fun K hK => ?_); apply s_region; apply s_q; decide; rfl; (simp only [go_sem]; rfl); apply s_nil; simp only [AThen, ABlock]; refine hK _ _ ?_; clear hK K; apply AWp_ret; simp only [AThen, ABlock]; apply end_ret; rfl; simp only [AFr.get, reduceIte, Nat.reduceEqDiff])
    exact ⟨H, hE, h⟩
  (apply AWp_skip; simp only [AThen, ABlock]; refine hK _ _ ?_; clear hK K; refine AWp_seq_k (fun K hK => ?_); apply s_region; (iterate 2 (apply s_q; decide; rfl; (simp only [go_sem, g5]; rfl))); apply s_call; decide; (simp only [go_sem, g5]; rfl); (simp only [go_sem, g5]; rfl); apply hOf; (iterate 7 (apply s_q; decide; rfl; (simp only [go_sem, g5]; rfl))); apply s_nil; simp only [AThen, ABlock]; refine hK _ _ ?_; clear hK K; (iterate 2 (refine AWp_seq_k (fun K hK => ?_))); apply s_region; (iterate 3 (apply s_q; decide; rfl; (simp only [go_sem, g5]; rfl))); (iterate 2 (apply s_spec; decide; rfl; rfl; (simp only [go_sem, g5]; rfl); (simp only [go_sem, g5]; rfl); (simp only [go_sem, g5]; rfl); (simp only [go_sem, g5]; rfl); trivial)); apply s_spec; decide; rfl; rfl; (simp only [go_sem, g5]; rfl); (simp only [go_sem, g5]; rfl); (simp only [go_sem, g5]; rfl); (simp only [go_sem, g5]; rfl); simp [condsOk]; apply s_pick; decide; (simp only [go_sem, g5]; rfl); (simp only [go_sem, g5]; rfl); (simp only [go_sem, g5]; rfl); (simp only [go_sem, g5]; rfl); (simp only [go_sem, g5]; rfl); (simp only [go_sem, g5]; rfl); trivial; trivial; simp [condsOk]; apply s_nil; simp only [AThen, ABlock]; refine hK _ _ ?_; clear hK K)
  refine cond_split (by simp only [go_sem]; try rfl) (fun hq => ?_) (fun hq => ?_)
  · (refine AWp_seq_k (fun K hK => ?_); apply s_region; apply s_call; decide; (simp only [go_sem]; rfl); (simp only [go_sem]; rfl); apply awake_c hS hKy; apply s_q; decide; rfl; (simp only [go_sem]; rfl); apply s_nil; simp only [AThen, ABlock]; refine hK _ _ ?_; clear hK K; apply AWp_ret; simp only [AThen, ABlock]; apply end_ret; rfl; simp only [AFr.get, reduceIte, Nat.reduceEqDiff])
    exact ⟨H, hE, h⟩
  have hq' : (if (!decide (r1 = kReact)) = true then true else !decide (r2 = name)) = false := hq
  have h1 : r1 = kReact := by
    cases hd : decide (r1 = kReact) with
    | true => exact of_decide_eq_true hd
    | false => rw [hd] at hq'; cases hq'
  have h2 : r2 = name := by
    rw [decide_eq_true h1] at hq'
    simpa using hq'
  (apply AWp_skip; simp only [AThen, ABlock]; refine hK _ _ ?_; clear hK K; (iterate 2 (refine AWp_seq_k (fun K hK => ?_))); apply s_region; apply s_q; decide; rfl; (simp only [go_sem]; rfl); apply s_nil; simp only [AThen, ABlock]; refine hK _ _ ?_; clear hK K; apply AWp_block)
  refine AWp_loop_s (σ := Nat) [0, 1, 5, 9, 10] (fun i => [.sl false (l.map Kn.cells), .s name, ptrTo p5, .s (rkey x), .v (.int .i64 i)])
    (fun _ => M) (fun i => l.length - i) (fun i => i ≤ l.length ∧ ∀ k ∈ l.take i, k.name ≠ x.name) 0 ⟨Nat.zero_le _, by simp⟩ rfl rfl (fun i hi => ?_)
  simp only [List.zip_cons_cons, List.zip_nil_right]
  ((iterate 2 (refine AWp_seq_k (fun K hK => ?_))); apply s_region; (iterate 4 (apply s_q; decide; rfl; (simp only [go_sem]; rfl))); apply s_nil; simp only [AThen, ABlock]; refine hK _ _ ?_; clear hK K)
  refine cond_split (by simp only [go_sem]; try rfl) (fun hd => ?_) (fun hd => ?_)
  · have hlt : i < l.length := by simpa using hd
    obtain ⟨k, hk⟩ := gete hlt
    have hgk := kn_at hk
    (apply AWp_skip; simp only [AThen, ABlock]; refine hK _ _ ?_; clear hK K; refine AWp_seq_k (fun K hK => ?_); apply AWp_block; refine AWp_seq_k (fun K hK => ?_))
    apply AWp_drawA [0, 1, 2, 3, 4, 5, 6, 7] [] 0 (by exact mixed); kernel_rfl; (simp only [go_sem]; rfl); (simp only [go_sem]; rfl)
    ((iterate 8 (apply e_q; decide; (simp only [go_sem, hgk, g5]; rfl))); apply e_nil; apply t_nil; simp only [AThen, ABlock]; refine hK _ _ ?_; clear hK K)
    refine cond_split (by simp only [go_sem]; try rfl) (fun he => ?_) (fun he => ?_)
    · (refine AWp_seq_k (fun K hK => ?_); apply s_region; apply s_call; decide; (simp only [go_sem]; rfl); (simp only [go_sem]; rfl); apply awake_c hS hKy; apply s_q; decide; rfl; (simp only [go_sem]; rfl); apply s_nil; simp only [AThen, ABlock]; refine hK _ _ ?_; clear hK K; apply AWp_ret; simp only [AThen, ABlock]; apply end_ret; rfl; simp only [AFr.get, reduceIte, Nat.reduceEqDiff])
      exact ⟨H, hE, h⟩
    (apply AWp_skip; simp only [AThen, ABlock]; refine hK _ _ ?_; clear hK K; apply s_region; (iterate 3 (apply s_q; decide; rfl; (simp only [go_sem]; rfl))); apply s_nil; simp only [AThen, ABlock])
    refine ⟨i + 1, by omega, ⟨by omega, fun y hy => ?_⟩, ?_, by trivial⟩
    · rcases take_mem_succ hk hy with hy | hy
      · exact hi.2 y hy
      · subst hy; simpa using he
    · simp only [getAll, List.map_cons, List.map_nil, AFr.get]
      rw [wrapS hlt (by omega)]; rfl
  have hge : l.length ≤ i := by simpa using hd
  have hfresh := hi.2
  rw [List.take_of_length_le hge] at hfresh
  have hmore := counts_more (name := name) hfresh (by rw [hr]; exact h1) (by rw [hr]; exact h2)
  have hcl : (reactL l name).length ≤ 1000000 := Nat.le_trans (react_len l name) (by omega)
  have hcl2 : (reactL (l ++ [x]) name).length ≤ 1000000 := Nat.le_trans (react_len (l ++ [x]) name) (by simp only [List.length_append, List.length_cons, List.length_nil]; omega)
  have hok2 : ∀ k ∈ [] ++ l ++ [x], k.Ok := fun k hk => by
    simp at hk
    rcases hk with hk | rfl
    · exact hok k hk
    · exact hx.1
  have hsn2 : ∀ k ∈ [] ++ l ++ [x], k.ev.sender.length ≤ 4611686018427387904 := fun k hk => by
    simp at hk
    rcases hk with hk | rfl
    · exact hsn k hk
    · exact hx.2.2.2.2
  (apply AWp_exit; simp only [AThen, ABlock, reduceIte, Nat.reduceEqDiff]; clear hK K; refine hK _ _ ?_; clear hK K; refine AWp_seq_k (fun K hK => ?_))
  apply AWp_drawP [0, 1, 2, 3, 4, 5, 6, 8, 9, 11, 13] [7, 10, 12] [14, 15, 16] 3 (by exact mixed); kernel_rfl; (simp only [go_sem]; rfl); (simp only [go_sem]; rfl); (simp only [go_sem]; rfl)
  ((iterate 2 (apply e_q; decide; (simp only [go_sem, g5]; rfl))); apply e_call; decide; (simp only [go_sem, g5]; rfl); (simp only [go_sem, g5]; rfl); (apply reactions_c hS hKy false l name (by omega) hok hsn; exact ⟨rfl, rfl⟩); apply e_q; decide; (simp only [go_sem, g5]; rfl); apply e_call; decide; (simp only [go_sem, g5]; rfl); (simp only [go_sem, g5]; rfl); (apply usersAt_c false _ hcl (rkey x); exact ⟨rfl, rfl⟩); apply e_lit; decide; exact el_33; (simp only [go_sem, g5]; rfl); (simp only [go_sem, g5]; rfl); decide; (iterate 2 (apply e_q; decide; (simp only [go_sem, g5]; rfl))); apply e_lit; decide; exact el_33; (simp only [go_sem, g5]; rfl); (simp only [go_sem, g5]; rfl); decide; (iterate 2 (apply e_q; decide; (simp only [go_sem, g5]; rfl))); apply e_nil; apply t_append; decide; (simp only [go_sem, g5]; rfl); (simp only [go_sem, g5]; rfl); apply AApp_map el_33 (Gr.nil _ _ _) (l := []) (m := l) (g := Kn.cells) rfl rfl tk_33 kn_one (by simp; omega) (by simp; omega); intro s1 H1 hG1; have hx1 := hG1.ext; refine ⟨by (intro _; assumption), ?_⟩)
  (apply t_append; decide; (simp only [go_sem, g5]; rfl); (simp only [go_sem, g5]; rfl); apply AApp_map el_33 hG1 (l := [] ++ l) (m := [x]) (g := Kn.cells) rfl rfl tk_33 kn_one (by simp; omega) (by simp; omega); intro s2 H2 hG2; have hx2 := hG2.ext; refine ⟨by (intro _; assumption), ?_⟩)
  (apply t_call; decide; (simp only [go_sem]; rfl); (simp only [go_sem]; rfl); refine Gr.call (pre := []) (post := [.s name]) hG2 (fun _ => rfl) (fun _ => rfl) (fun t4 H4 hE4 => ?_); refine reactions_c hS hKy t4 ([] ++ l ++ [x]) name (by simp; omega) hok2 hsn2 H4 _ ?_; refine ⟨(fun _ => hE4), ?_⟩; apply t_nil; simp only [AThen, ABlock])
  (apply e_call; decide; (simp only [go_sem]; rfl); (simp only [go_sem]; rfl); (apply usersAt_c false _ hcl2 (rkey x); exact ⟨rfl, rfl⟩); (iterate 2 (apply e_q; decide; (simp only [go_sem]; rfl))); apply e_nil)
  refine hK _ _ ?_
  clear hK
  have hE5 := Ext.trans hE hE4
  have g6 := hE4 _ _ g5
  have hul : (usersAt (reactL l name) (rkey x)).length ≤ 1000000 := by
    rw [usersAt_react]
    refine Nat.le_trans (senders_len _ _) (Nat.le_trans (Nat.le_trans (List.length_filter_le _ _) (firstL_len l)) (by omega))
  have hlu : ((usersAt (reactL l name) (rkey x)).map strCells).length = (usersAt (reactL l name) (rkey x)).length := List.length_map _
  have hlz : ((usersAt (reactL (l ++ [x]) name) (rkey x)).map strCells).length = (usersAt (reactL (l ++ [x]) name) (rkey x)).length := List.length_map _
  simp only [List.nil_append]
  generalize hW : usersAt (reactL l name) (rkey x) = W at *
  generalize hI : usersAt (reactL (l ++ [x]) name) (rkey x) = I at *
  generalize (List.find? (fun c => decide (c.key = rkey x)) (reactL l name)).isNone = tw
  generalize (List.find? (fun c => decide (c.key = rkey x)) (reactL (l ++ [x]) name)).isNone = ti
  (refine AWp_seq_k (fun K hK => ?_); apply s_region; apply s_q; decide; rfl; (simp only [go_sem]; rfl); apply s_nil; simp only [AThen, ABlock]; refine hK _ _ ?_; clear hK K; (iterate 2 (refine AWp_seq_k (fun K hK => ?_))); apply s_region; apply s_q; decide; rfl; (simp only [go_sem]; rfl); apply s_nil; simp only [AThen, ABlock]; refine hK _ _ ?_; clear hK K; apply AWp_block)
  refine AWp_loop_s (σ := Nat) [5, 11, 12, 13, 14] (fun i => [ptrTo p5, .sl tw (W.map strCells), .sl ti (I.map strCells), .v (.bool ((W.take i).any fun u => decide (u = x.ev.sender))), .v (.int .i64 i)])
    (fun _ => H4) (fun i => W.length - i) (fun i => i ≤ W.length) 0 (Nat.zero_le _) rfl rfl (fun i hi => ?_)
  simp only [List.zip_cons_cons, List.zip_nil_right]
  ((iterate 2 (refine AWp_seq_k (fun K hK => ?_))); apply s_region; (iterate 4 (apply s_q; decide; rfl; (simp only [go_sem]; rfl))); apply s_nil; simp only [AThen, ABlock]; refine hK _ _ ?_; clear hK K)
  refine cond_split (by simp only [go_sem]; try rfl) (fun hz => ?_) (fun hz => ?_)
  · have hlt : i < W.length := by simpa using hz
    obtain ⟨u, hu⟩ := gete hlt
    have hgu := jstr_at hu
    have hat : ((W.take (i + 1)).any fun u => decide (u = x.ev.sender)) = (((W.take i).any fun u => decide (u = x.ev.sender)) || decide (u = x.ev.sender)) := by rw [take_succ hu, List.any_append]; simp
    (apply AWp_skip; simp only [AThen, ABlock]; refine hK _ _ ?_; clear hK K; refine AWp_seq_k (fun K hK => ?_); apply AWp_block)
    apply AWp_drawA [0, 1, 2, 3, 4, 5, 6, 7, 8, 9, 10, 11] [] 0 (by exact mixed); kernel_rfl; (simp only [go_sem]; rfl); (simp only [go_sem]; rfl)
    ((iterate 2 (apply e_q; decide; (simp only [go_sem, hgu, g6]; rfl))); (iterate 2 (apply e_spec; decide; (simp only [go_sem, hgu, g6]; rfl); (simp only [go_sem, hgu, g6]; rfl); (simp only [go_sem, hgu, g6]; rfl); (simp only [go_sem, hgu, g6]; rfl); trivial)); (iterate 2 (apply e_spec; decide; (simp only [go_sem, hgu, g6]; rfl); (simp only [go_sem, hgu, g6]; rfl); (simp only [go_sem, hgu, g6]; rfl); (simp only [go_sem, hgu, g6]; rfl); simp [condsOk])); apply e_spec; decide; (simp only [go_sem, hgu, g6]; rfl); (simp only [go_sem, hgu, g6]; rfl); (simp only [go_sem, hgu, g6]; rfl); (simp only [go_sem, hgu, g6]; rfl); trivial; (iterate 3 (apply e_spec; decide; (simp only [go_sem, hgu, g6]; rfl); (simp only [go_sem, hgu, g6]; rfl); (simp only [go_sem, hgu, g6]; rfl); (simp only [go_sem, hgu, g6]; rfl); simp [condsOk])); apply e_pick; decide; (simp only [go_sem, hgu, g6]; rfl); (simp only [go_sem, hgu, g6]; rfl); (simp only [go_sem, hgu, g6]; rfl); (simp only [go_sem, hgu, g6]; rfl); (simp only [go_sem, hgu, g6]; rfl); (simp only [go_sem, hgu, g6]; rfl); trivial; trivial; simp [condsOk]; apply e_q; decide; (simp only [go_sem, hgu, g6]; rfl); apply e_nil; apply t_nil; simp only [AThen, ABlock]; refine hK _ _ ?_; clear hK K; apply s_region; (iterate 3 (apply s_q; decide; rfl; (simp only [go_sem, hgu, g6]; rfl))); apply s_nil; simp only [AThen, ABlock])
    refine ⟨i + 1, by omega, by omega, ?_, by trivial⟩
    simp only [getAll, List.map_cons, List.map_nil, AFr.get, reduceIte, Nat.reduceEqDiff]
    rw [wrapS hlt (by omega), hat]
    congr 4
    cases (W.take i).any (fun u => decide (u = x.ev.sender)) <;> simp
  have hgz : W.length ≤ i := by simpa using hz
  rw [List.take_of_length_le hgz]
  have hml : (x.ev.sender ∈ W) = ((W.any fun u => decide (u = x.ev.sender)) = true) := by simp
  simp only [hml] at hmore
  cases ha : (W.any fun u => decide (u = x.ev.sender)) with
  | true =>
    rw [ha, if_pos rfl] at hmore
    (apply AWp_exit; simp only [AThen, ABlock, reduceIte, Nat.reduceEqDiff]; clear hK K; refine hK _ _ ?_; clear hK K; (iterate 2 (refine AWp_seq_k (fun K hK => ?_))); apply s_region; apply s_q; decide; rfl; (simp only [go_sem]; rfl); apply s_nil; simp only [AThen, ABlock]; refine hK _ _ ?_; clear hK K)
    refine cond_split (by simp only [go_sem]; try rfl) (fun hc => ?_) (fun hc => ?_)
    · (refine AWp_seq_k (fun K hK => ?_); apply s_region; (iterate 6 (apply s_q; decide; rfl; (simp only [go_sem, hlu, hlz]; rfl))); apply s_gpure; decide; (simp only [go_sem, hlu, hlz]; rfl); (simp only [go_sem, hlu, hlz]; rfl); (simp only [go_sem, hlu, hlz]; rfl); trivial; (simp only [go_sem, hlu, hlz]; rfl); (simp only [go_sem, hlu, hlz]; rfl); (apply awake_c hS hKy; exact ⟨rfl, rfl⟩); apply s_pick; decide; (simp only [go_sem, hlu, hlz]; rfl); (simp only [go_sem, hlu, hlz]; rfl); (simp only [go_sem, hlu, hlz]; rfl); (simp only [go_sem, hlu, hlz]; rfl); (simp only [go_sem, hlu, hlz]; rfl); (simp only [go_sem, hlu, hlz]; rfl); trivial; simp [condsOk]; trivial; apply s_q; decide; rfl; (simp only [go_sem, hlu, hlz]; rfl); apply s_nil; simp only [AThen, ABlock]; refine hK _ _ ?_; clear hK K; apply AWp_ret; simp only [AThen, ABlock]; apply end_ret; rfl; simp only [AFr.get, reduceIte, Nat.reduceEqDiff])
      refine ⟨H, hE5, finB h ?_⟩
      simp [hmore]
    · cases hc
  | false =>
    rw [ha, if_neg (by simp)] at hmore
    (apply AWp_exit; simp only [AThen, ABlock, reduceIte, Nat.reduceEqDiff]; clear hK K; refine hK _ _ ?_; clear hK K; (iterate 2 (refine AWp_seq_k (fun K hK => ?_))); apply s_region; apply s_q; decide; rfl; (simp only [go_sem]; rfl); apply s_nil; simp only [AThen, ABlock]; refine hK _ _ ?_; clear hK K)
    refine cond_split (by simp only [go_sem]; try rfl) (fun hc => ?_) (fun hc => ?_)
    · cases hc
    · (apply AWp_skip; simp only [AThen, ABlock]; refine hK _ _ ?_; clear hK K; refine AWp_seq_k (fun K hK => ?_); apply s_region; (iterate 7 (apply s_q; decide; rfl; (simp only [go_sem, hlu, hlz]; rfl))); apply s_gpure; decide; (simp only [go_sem, hlu, hlz]; rfl); (simp only [go_sem, hlu, hlz]; rfl); (simp only [go_sem, hlu, hlz]; rfl); trivial; (simp only [go_sem, hlu, hlz]; rfl); (simp only [go_sem, hlu, hlz]; rfl); (apply awake_c hS hKy; exact ⟨rfl, rfl⟩); apply s_pick; decide; (simp only [go_sem, hlu, hlz]; rfl); (simp only [go_sem, hlu, hlz]; rfl); (simp only [go_sem, hlu, hlz]; rfl); (simp only [go_sem, hlu, hlz]; rfl); (simp only [go_sem, hlu, hlz]; rfl); (simp only [go_sem, hlu, hlz]; rfl); trivial; simp [condsOk]; trivial; apply s_q; decide; rfl; (simp only [go_sem, hlu, hlz]; rfl); apply s_nil; simp only [AThen, ABlock]; refine hK _ _ ?_; clear hK K; apply AWp_ret)
      refine ⟨H, hE5, finB h ?_⟩
      simp [hmore]
      rw [wrap64 (by omega)]
end Go.Proofs.Ytmloandpjbimkaa
