/-
  RelateOthers: walked.
-/
import Derived.Test.YtmloandpjbimkaaW25Q
set_option linter.unusedSimpArgs false
set_option linter.unusedVariables false
set_option maxRecDepth 100000
namespace Go.Proofs.Ytmloandpjbimkaa
open Go Go.AL
attribute [local irreducible] AOps AWp SOps AE AT ACall AApp

theorem firstL_fresh {l : List Kn} {x : Kn} (h : ∀ k ∈ l, k.name ≠ x.name) : firstL (l ++ [x]) = firstL l ++ [x] := by
  have : firstL (l ++ [x]) = fstep (firstL l) x := by rw [firstL, List.foldl_append]; rfl
  rw [this, fstep, if_neg]
  intro e
  obtain ⟨y, hy, hyx⟩ := List.any_eq_true.1 e
  exact h y (firstL_sub l hy) (by simpa using hyx)
theorem about_fresh {l : List Kn} {x : Kn} (h : ∀ k ∈ l, k.name ≠ x.name) (kind name : List UInt8) : aboutL (l ++ [x]) kind name = aboutL l kind name ++ (if isAbout kind name x then [x] else []) := by
  rw [aboutL, firstL_fresh h, List.filter_append, aboutL, List.filter_cons]
  split <;> simp
theorem body_others {l : List Kn} {name : List UInt8} {x k : Kn} (h : ∀ k ∈ l, k.name ≠ x.name) (hf : l.find? (fun k => decide (k.name = name)) = some k) (hs : x.ev.sender ≠ k.ev.sender) : bodyL (l ++ [x]) name = bodyL l name := by
  have h1 : (l ++ [x]).find? (fun k => decide (k.name = name)) = some k := by rw [List.find?_append, hf]; rfl
  have h2 : editsL (l ++ [x]) name k.ev = editsL l name k.ev := by
    unfold editsL
    split
    · rfl
    · rw [about_fresh h, List.filter_append]
      have : (if isAbout kEdit name x = true then [x] else []).filter (fun y => !otherB k.ev y.ev) = [] := by
        split
        · simp [otherB, hs]
        · rfl
      rw [this, List.append_nil]
  unfold bodyL
  rw [h1, hf]
  simp only [h2]
/-- the two guards of laws that are handed one event more -/
theorem find_take {l : List Kn} {i : Nat} {k : Kn} {p : Kn → Bool} (h : l[i]? = some k) : (l.take (i + 1)).find? p = ((l.take i).find? p).or (if p k then some k else none) := by
  rw [take_succ h, List.find?_append, List.find?_cons, List.find?_nil]
  split <;> rename_i hp <;> rw [hp] <;> rfl
set_option maxHeartbeats 8000000 in
theorem relateOthers_c (hS : HSort) (hKy : HKeys) (l : List Kn) (hl : l.length ≤ 4611686018427387904) (hw : ∀ k ∈ l, k.Wide) (name : List UInt8) (x : Kn) (hx : x.Wide) (H : AHeap) (K : AV → AHeap → Prop) (h : K (.v (.bool true)) H) : ACall X 4 [.sl false (l.map Kn.cells), .s name, .agg x.cells] H K := by
  refine ACall.drop ?_
  have hok : ∀ k ∈ l, k.Ok := fun k hk => (hw k hk).1
  have hF1 : ∀ (t : Bool) (H : AHeap) (K : AV → AHeap → Prop), (∀ b : Bool, K (.v (.bool b)) H) → ACall X 13 [.sl t [x.cells], .s []] H K := fun t H K hk => few25_c t [x] (by simp) (fun k hk => by simp at hk; subst hk; exact hx) [] H K (fun b _ => hk b)
  rw [Kn.cells] at hF1 ⊢
  refine ACall_intro Try.func4 rfl (by kernel_rfl) (by rw [Try.ntmps4]; simp) ?_; rw [Try.ntmps4]; simp only [frame0, Nat.reduceAdd]
  refine AWp_seq_k (fun K hK => ?_); apply s_region
  apply s_box; decide; exact (by simp only [go_sem]; try rfl); exact (by simp only [go_sem]; try rfl); intro p5 hp5
  (apply s_q; decide; rfl; (simp only [go_sem]; rfl); apply s_nil; simp only [AThen, ABlock]; refine hK _ _ ?_; clear hK K; (iterate 2 (refine AWp_seq_k (fun K hK => ?_))); apply s_region; (iterate 2 (apply s_q; decide; rfl; (simp only [go_sem]; rfl))))
  generalize hgenq : AHeap.put p5 _ H = M; obtain ⟨g5, hextq⟩ := gen_ex hgenq hp5; have hE := hextq; clear hextq hgenq
  (apply s_call; decide; (simp only [go_sem, g5]; rfl); (simp only [go_sem, g5]; rfl); apply few25_c false l hl hw name; intro b1 h30; (iterate 2 (apply s_q; decide; rfl; (simp only [go_sem, g5]; rfl))); apply s_spec; decide; rfl; rfl; (simp only [go_sem, g5]; rfl); (simp only [go_sem, g5]; rfl); (simp only [go_sem, g5]; rfl); (simp only [go_sem, g5]; rfl); trivial; apply s_glit; decide; (simp only [go_sem, g5]; rfl); (simp only [go_sem, g5]; rfl); (simp only [go_sem, g5]; rfl); simp [condsOk]; exact el_33; (simp only [go_sem, g5]; rfl); (simp only [go_sem, g5]; rfl); decide)
  cases b1 with
  | false =>
    have hn1 : (!false) = true := rfl
    (apply s_when (av := (.v (.bool false))); decide; (simp only [go_sem, g5, hn1]; rfl); (simp only [go_sem, g5, hn1]; rfl); (simp only [go_sem, g5, hn1]; rfl); trivial; (focus (intro hg; first | (cases hg; done) | (simp at hg; done))); apply s_spec; decide; rfl; rfl; (simp only [go_sem, g5, hn1]; rfl); (simp only [go_sem, g5, hn1]; rfl); (simp only [go_sem, g5, hn1]; rfl); (simp only [go_sem, g5, hn1]; rfl); trivial; apply s_pick; decide; (simp only [go_sem, g5, hn1]; rfl); (simp only [go_sem, g5, hn1]; rfl); (simp only [go_sem, g5, hn1]; rfl); (simp only [go_sem, g5, hn1]; rfl); (simp only [go_sem, g5, hn1]; rfl); (simp only [go_sem, g5, hn1]; rfl); trivial; trivial; trivial; apply s_nil; simp only [AThen, ABlock]; refine hK _ _ ?_; clear hK K)
    refine cond_split (by simp only [go_sem]; try rfl) (fun hc => ?_) (fun hc => ?_)
    · (refine AWp_seq_k (fun K hK => ?_); apply s_region; apply s_q; decide; rfl; (simp only [go_sem]; rfl); apply s_nil; simp only [AThen, ABlock]; refine hK _ _ ?_; clear hK K; apply AWp_ret; simp only [AThen, ABlock]; apply end_ret; rfl; simp only [AFr.get, reduceIte, Nat.reduceEqDiff])
      exact ⟨H, hE, h⟩
    · cases hc
  | true =>
  have hl2 : l.length ≤ 1000 := Nat.le_trans (h30 rfl) (by decide)
  have hn1 : (!true) = false := rfl
  skip
  apply s_ycall; decide; (simp only [go_sem, hn1]; rfl); simp only [go_sem, hn1]; (simp only [go_sem, hn1]; rfl); trivial; (simp only [go_sem, hn1]; rfl); (simp only [go_sem, hn1]; rfl); (simp only [go_sem, hn1]; rfl); apply hF1; intro b3
  (apply s_spec; decide; rfl; rfl; (simp only [go_sem, hn1]; rfl); (simp only [go_sem, hn1]; rfl); (simp only [go_sem, hn1]; rfl); (simp only [go_sem, hn1]; rfl); trivial; apply s_pick; decide; (simp only [go_sem, hn1]; rfl); (simp only [go_sem, hn1]; rfl); (simp only [go_sem, hn1]; rfl); (simp only [go_sem, hn1]; rfl); (simp only [go_sem, hn1]; rfl); (simp only [go_sem, hn1]; rfl); trivial; trivial; trivial)
  apply s_nil; simp only [AThen, ABlock]; refine hK _ _ ?_; clear hK K
  refine cond_split (by simp only [go_sem]; try rfl) (fun hc => ?_) (fun hc => ?_)
  · (refine AWp_seq_k (fun K hK => ?_); apply s_region; apply s_q; decide; rfl; (simp only [go_sem]; rfl); apply s_nil; simp only [AThen, ABlock]; refine hK _ _ ?_; clear hK K; apply AWp_ret; simp only [AThen, ABlock]; apply end_ret; rfl; simp only [AFr.get, reduceIte, Nat.reduceEqDiff])
    exact ⟨H, hE, h⟩
  (apply AWp_skip; simp only [AThen, ABlock]; refine hK _ _ ?_; clear hK K; refine AWp_seq_k (fun K hK => ?_); apply s_region; (iterate 3 (apply s_q; decide; rfl; (simp only [go_sem]; rfl))); apply s_nil; simp only [AThen, ABlock]; refine hK _ _ ?_; clear hK K; (iterate 2 (refine AWp_seq_k (fun K hK => ?_))); apply s_region; apply s_q; decide; rfl; (simp only [go_sem]; rfl); apply s_nil; simp only [AThen, ABlock]; refine hK _ _ ?_; clear hK K; apply AWp_block)
  refine AWp_loop_s (σ := Nat) [0, 1, 5, 7, 8, 9, 10] (fun i => [.sl false (l.map Kn.cells), .s name, ptrTo p5, .s (match (l.take i).find? (fun k => decide (k.name = name)) with | some k => k.ev.sender | none => []), .v (.bool ((l.take i).find? (fun k => decide (k.name = name))).isSome), .v (.bool (!(l.take i).any fun k => decide (k.name = x.name))), .v (.int .i64 i)])
    (fun _ => M) (fun i => l.length - i) (fun i => i ≤ l.length) 0 (Nat.zero_le _) rfl rfl (fun i hi => ?_)
  simp only [List.zip_cons_cons, List.zip_nil_right]
  ((iterate 2 (refine AWp_seq_k (fun K hK => ?_))); apply s_region; (iterate 4 (apply s_q; decide; rfl; (simp only [go_sem]; rfl))); apply s_nil; simp only [AThen, ABlock]; refine hK _ _ ?_; clear hK K)
  refine cond_split (by simp only [go_sem]; try rfl) (fun hd => ?_) (fun hd => ?_)
  · have hlt : i < l.length := by simpa using hd
    obtain ⟨k, hk⟩ := gete hlt
    have hgk := kn_at hk
    have hft := find_take (p := fun k => decide (k.name = name)) hk
    have hat : ((l.take (i + 1)).any fun k => decide (k.name = x.name)) = (((l.take i).any fun k => decide (k.name = x.name)) || decide (k.name = x.name)) := by rw [take_succ hk, List.any_append]; simp
    have hfin : [AV.sl false (l.map Kn.cells), .s name, ptrTo p5, .s (match (l.take (i + 1)).find? (fun k => decide (k.name = name)) with | some k => k.ev.sender | none => []), .v (.bool ((l.take (i + 1)).find? (fun k => decide (k.name = name))).isSome), .v (.bool (!(l.take (i + 1)).any fun k => decide (k.name = x.name))), .v (.int .i64 ((i + 1 : Nat) : Int))] = getAll [0, 1, 5, 7, 8, 9, 10] [(0, AV.sl false (l.map Kn.cells)), (1, .s name), (5, ptrTo p5), (7, .s (match (l.take (i + 1)).find? (fun k => decide (k.name = name)) with | some k => k.ev.sender | none => [])), (8, .v (.bool ((l.take (i + 1)).find? (fun k => decide (k.name = name))).isSome)), (9, .v (.bool (!(l.take (i + 1)).any fun k => decide (k.name = x.name)))), (10, .v (.int .i64 ((i + 1 : Nat) : Int)))] := rfl
    (apply AWp_skip; simp only [AThen, ABlock]; refine hK _ _ ?_; clear hK K; refine AWp_seq_k (fun K hK => ?_); apply AWp_block; (iterate 2 (refine AWp_seq_k (fun K hK => ?_))); apply s_region; (iterate 8 (apply s_q; decide; rfl; (simp only [go_sem, hgk]; rfl))); apply s_spec; decide; rfl; rfl; (simp only [go_sem, hgk]; rfl); (simp only [go_sem, hgk]; rfl); (simp only [go_sem, hgk]; rfl); (simp only [go_sem, hgk]; rfl); trivial; apply s_spec; decide; rfl; rfl; (simp only [go_sem, hgk]; rfl); (simp only [go_sem, hgk]; rfl); (simp only [go_sem, hgk]; rfl); (simp only [go_sem, hgk]; rfl); simp [condsOk]; apply s_pick; decide; (simp only [go_sem, hgk]; rfl); (simp only [go_sem, hgk]; rfl); (simp only [go_sem, hgk]; rfl); (simp only [go_sem, hgk]; rfl); (simp only [go_sem, hgk]; rfl); (simp only [go_sem, hgk]; rfl); trivial; simp [condsOk]; trivial; apply s_nil; simp only [AThen, ABlock]; refine hK _ _ ?_; clear hK K)
    have hrest : ∀ (fr' : AFr) (sd : List UInt8) (th : Bool), getAll [0, 1, 5, 7, 8, 9, 10] fr' = [.sl false (l.map Kn.cells), .s name, ptrTo p5, .s sd, .v (.bool th), .v (.bool (!(l.take i).any fun k => decide (k.name = x.name))), .v (.int .i64 i)] → sd = (match (l.take (i + 1)).find? (fun k => decide (k.name = name)) with | some k => k.ev.sender | none => []) → th = ((l.take (i + 1)).find? (fun k => decide (k.name = name))).isSome → K fr' M := by
      intro fr' sd th hfr hsd hth
      refine hK _ _ (AWp_cut _ hfr ?_)
      clear hK
      simp only [List.zip_cons_cons, List.zip_nil_right]
      apply AWp_drawA [0, 1, 2, 3, 4, 5, 6, 7, 8, 9, 10, 11] [] 0 (by exact mixed); kernel_rfl; (simp only [go_sem]; rfl); (simp only [go_sem]; rfl)
      ((iterate 2 (apply e_q; decide; (simp only [go_sem, hgk, g5]; rfl))); (iterate 2 (apply e_spec; decide; (simp only [go_sem, hgk, g5]; rfl); (simp only [go_sem, hgk, g5]; rfl); (simp only [go_sem, hgk, g5]; rfl); (simp only [go_sem, hgk, g5]; rfl); trivial)); (iterate 3 (apply e_spec; decide; (simp only [go_sem, hgk, g5]; rfl); (simp only [go_sem, hgk, g5]; rfl); (simp only [go_sem, hgk, g5]; rfl); (simp only [go_sem, hgk, g5]; rfl); simp [condsOk])); apply e_spec; decide; (simp only [go_sem, hgk, g5]; rfl); (simp only [go_sem, hgk, g5]; rfl); (simp only [go_sem, hgk, g5]; rfl); (simp only [go_sem, hgk, g5]; rfl); trivial; (iterate 2 (apply e_spec; decide; (simp only [go_sem, hgk, g5]; rfl); (simp only [go_sem, hgk, g5]; rfl); (simp only [go_sem, hgk, g5]; rfl); (simp only [go_sem, hgk, g5]; rfl); simp [condsOk])); apply e_pick; decide; (simp only [go_sem, hgk, g5]; rfl); (simp only [go_sem, hgk, g5]; rfl); (simp only [go_sem, hgk, g5]; rfl); (simp only [go_sem, hgk, g5]; rfl); (simp only [go_sem, hgk, g5]; rfl); (simp only [go_sem, hgk, g5]; rfl); trivial; simp [condsOk]; trivial; apply e_q; decide; (simp only [go_sem, hgk, g5]; rfl); apply e_nil; apply t_nil; simp only [AThen, ABlock]; refine hK _ _ ?_; clear hK K; apply s_region; (iterate 3 (apply s_q; decide; rfl; (simp only [go_sem, hgk, g5]; rfl))); apply s_nil; simp only [AThen, ABlock])
      refine ⟨i + 1, by omega, by omega, ?_, by trivial⟩
      simp only [getAll, List.map_cons, List.map_nil, AFr.get, reduceIte, Nat.reduceEqDiff]
      rw [wrapS hlt (by omega), ← hsd, ← hth, hat]
      congr 6
      cases (l.take i).any (fun k => decide (k.name = x.name)) <;> simp
    clear hK
    cases hfd : (l.take i).find? (fun k => decide (k.name = name)) with
    | some k0 =>
      rw [hfd] at hft
      simp only [Option.some_or] at hft
      refine cond_split (by simp only [go_sem]; try rfl) (fun he => ?_) (fun he => ?_)
      · exfalso
        cases hkn : decide (k.name = name) <;> simp [hkn] at he
      (apply AWp_skip; simp only [AThen, ABlock])
      exact hrest _ k0.ev.sender true rfl (by rw [hft]) (by rw [hft]; rfl)
    | none =>
      rw [hfd] at hft
      simp only [Option.none_or] at hft
      refine cond_split (by simp only [go_sem]; try rfl) (fun he => ?_) (fun he => ?_)
      · have hkn : decide (k.name = name) = true := by
          cases hkn : decide (k.name = name) with
          | true => rfl
          | false => simp [hkn] at he
        rw [hkn, if_pos rfl] at hft
        (refine AWp_seq_k (fun K hK => ?_); apply s_region; apply s_q; decide; rfl; (simp only [go_sem, hgk]; rfl); apply s_nil; simp only [AThen, ABlock]; refine hK _ _ ?_; clear hK K; apply s_region; (iterate 7 (apply s_q; decide; rfl; (simp only [go_sem, hgk]; rfl))); apply s_nil; simp only [AThen, ABlock])
        exact hrest _ k.ev.sender true rfl (by rw [hft]) (by rw [hft]; rfl)
      · have hkn : decide (k.name = name) = false := by
          cases hkn : decide (k.name = name) with
          | false => rfl
          | true => simp [hkn] at he
        rw [hkn, if_neg (by simp)] at hft
        (apply AWp_skip; simp only [AThen, ABlock])
        exact hrest _ [] false rfl (by rw [hft]) (by rw [hft]; rfl)
  · have hge : l.length ≤ i := by simpa using hd
    rw [List.take_of_length_le hge]
    cases hfd : l.find? (fun k => decide (k.name = name)) with
    | none =>
      (apply AWp_exit; simp only [AThen, ABlock, reduceIte, Nat.reduceEqDiff]; clear hK K; refine hK _ _ ?_; clear hK K; (iterate 2 (refine AWp_seq_k (fun K hK => ?_))); apply s_region; (iterate 3 (apply s_q; decide; rfl; (simp only [go_sem, g5]; rfl))); (iterate 2 (apply s_spec; decide; rfl; rfl; (simp only [go_sem, g5]; rfl); (simp only [go_sem, g5]; rfl); (simp only [go_sem, g5]; rfl); (simp only [go_sem, g5]; rfl); trivial)); apply s_pick; decide; (simp only [go_sem, g5]; rfl); (simp only [go_sem, g5]; rfl); (simp only [go_sem, g5]; rfl); (simp only [go_sem, g5]; rfl); (simp only [go_sem, g5]; rfl); (simp only [go_sem, g5]; rfl); trivial; trivial; trivial; apply s_q; decide; rfl; (simp only [go_sem, g5]; rfl); apply s_spec; decide; rfl; rfl; (simp only [go_sem, g5]; rfl); (simp only [go_sem, g5]; rfl); (simp only [go_sem, g5]; rfl); (simp only [go_sem, g5]; rfl); trivial; (iterate 2 (apply s_spec; decide; rfl; rfl; (simp only [go_sem, g5]; rfl); (simp only [go_sem, g5]; rfl); (simp only [go_sem, g5]; rfl); (simp only [go_sem, g5]; rfl); simp [condsOk])); apply s_spec; decide; rfl; rfl; (simp only [go_sem, g5]; rfl); (simp only [go_sem, g5]; rfl); (simp only [go_sem, g5]; rfl); (simp only [go_sem, g5]; rfl); trivial; apply s_spec; decide; rfl; rfl; (simp only [go_sem, g5]; rfl); (simp only [go_sem, g5]; rfl); (simp only [go_sem, g5]; rfl); (simp only [go_sem, g5]; rfl); simp [condsOk]; apply s_pick; decide; (simp only [go_sem, g5]; rfl); (simp only [go_sem, g5]; rfl); (simp only [go_sem, g5]; rfl); (simp only [go_sem, g5]; rfl); (simp only [go_sem, g5]; rfl); (simp only [go_sem, g5]; rfl); trivial; trivial; simp [condsOk]; apply s_nil; simp only [AThen, ABlock]; refine hK _ _ ?_; clear hK K)
      refine cond_split (by simp only [go_sem]; try rfl) (fun he => ?_) (fun he => ?_)
      · (refine AWp_seq_k (fun K hK => ?_); apply s_region; apply s_call; decide; (simp only [go_sem]; rfl); (simp only [go_sem]; rfl); apply awake_c hS hKy; apply s_q; decide; rfl; (simp only [go_sem]; rfl); apply s_nil; simp only [AThen, ABlock]; refine hK _ _ ?_; clear hK K; apply AWp_ret; simp only [AThen, ABlock]; apply end_ret; rfl; simp only [AFr.get, reduceIte, Nat.reduceEqDiff])
        exact ⟨H, hE, h⟩
      · simp at he
    | some k =>
      simp only [Option.isSome_some]
      (apply AWp_exit; simp only [AThen, ABlock, reduceIte, Nat.reduceEqDiff]; clear hK K; refine hK _ _ ?_; clear hK K; (iterate 2 (refine AWp_seq_k (fun K hK => ?_))); apply s_region; (iterate 3 (apply s_q; decide; rfl; (simp only [go_sem, g5]; rfl))); (iterate 2 (apply s_spec; decide; rfl; rfl; (simp only [go_sem, g5]; rfl); (simp only [go_sem, g5]; rfl); (simp only [go_sem, g5]; rfl); (simp only [go_sem, g5]; rfl); trivial)); apply s_pick; decide; (simp only [go_sem, g5]; rfl); (simp only [go_sem, g5]; rfl); (simp only [go_sem, g5]; rfl); (simp only [go_sem, g5]; rfl); (simp only [go_sem, g5]; rfl); (simp only [go_sem, g5]; rfl); trivial; trivial; trivial; apply s_q; decide; rfl; (simp only [go_sem, g5]; rfl); apply s_spec; decide; rfl; rfl; (simp only [go_sem, g5]; rfl); (simp only [go_sem, g5]; rfl); (simp only [go_sem, g5]; rfl); (simp only [go_sem, g5]; rfl); trivial; (iterate 2 (apply s_spec; decide; rfl; rfl; (simp only [go_sem, g5]; rfl); (simp only [go_sem, g5]; rfl); (simp only [go_sem, g5]; rfl); (simp only [go_sem, g5]; rfl); simp [condsOk])); apply s_spec; decide; rfl; rfl; (simp only [go_sem, g5]; rfl); (simp only [go_sem, g5]; rfl); (simp only [go_sem, g5]; rfl); (simp only [go_sem, g5]; rfl); trivial; apply s_spec; decide; rfl; rfl; (simp only [go_sem, g5]; rfl); (simp only [go_sem, g5]; rfl); (simp only [go_sem, g5]; rfl); (simp only [go_sem, g5]; rfl); simp [condsOk]; apply s_pick; decide; (simp only [go_sem, g5]; rfl); (simp only [go_sem, g5]; rfl); (simp only [go_sem, g5]; rfl); (simp only [go_sem, g5]; rfl); (simp only [go_sem, g5]; rfl); (simp only [go_sem, g5]; rfl); trivial; trivial; simp [condsOk]; apply s_nil; simp only [AThen, ABlock]; refine hK _ _ ?_; clear hK K)
      refine cond_split (by simp only [go_sem]; try rfl) (fun he => ?_) (fun he => ?_)
      · (refine AWp_seq_k (fun K hK => ?_); apply s_region; apply s_call; decide; (simp only [go_sem]; rfl); (simp only [go_sem]; rfl); apply awake_c hS hKy; apply s_q; decide; rfl; (simp only [go_sem]; rfl); apply s_nil; simp only [AThen, ABlock]; refine hK _ _ ?_; clear hK K; apply AWp_ret; simp only [AThen, ABlock]; apply end_ret; rfl; simp only [AFr.get, reduceIte, Nat.reduceEqDiff])
        exact ⟨H, hE, h⟩
      have hfr : (l.any fun k => decide (k.name = x.name)) = false := by
        cases ha : (l.any fun k => decide (k.name = x.name)) with
        | false => rfl
        | true => simp [ha] at he
      have hsd : x.ev.sender ≠ k.ev.sender := by
        intro e; simp [hfr, e] at he
      have hfresh : ∀ k ∈ l, k.name ≠ x.name := fun k hk e => by
        rw [List.any_eq_true.2 ⟨k, hk, by simpa using e⟩] at hfr; cases hfr
      have hbo := body_others (name := name) hfresh hfd hsd
      have hok2 : ∀ k ∈ [] ++ l ++ [x], k.Ok := fun k hk => by
        simp at hk
        rcases hk with hk | rfl
        · exact hok k hk
        · exact hx.1
      (apply AWp_skip; simp only [AThen, ABlock]; refine hK _ _ ?_; clear hK K; refine AWp_seq_k (fun K hK => ?_); apply s_region; (iterate 2 (apply s_q; decide; rfl; (simp only [go_sem, g5]; rfl))); apply s_call; decide; (simp only [go_sem, g5]; rfl); (simp only [go_sem, g5]; rfl); apply body_c false l name (by omega) hok; (iterate 5 (apply s_q; decide; rfl; (simp only [go_sem, g5]; rfl))); apply s_nil; simp only [AThen, ABlock]; refine hK _ _ ?_; clear hK K; refine AWp_seq_k (fun K hK => ?_))
      apply AWp_drawP [0, 1, 3, 4, 6] [2, 5, 7] [8, 9, 10, 11, 12] 2 (by exact mixed); kernel_rfl; (simp only [go_sem]; rfl); (simp only [go_sem]; rfl); (simp only [go_sem]; rfl)
      (apply e_lit; decide; exact el_33; (simp only [go_sem, g5]; rfl); (simp only [go_sem, g5]; rfl); decide; (iterate 2 (apply e_q; decide; (simp only [go_sem, g5]; rfl))); apply e_lit; decide; exact el_33; (simp only [go_sem, g5]; rfl); (simp only [go_sem, g5]; rfl); decide; apply e_q; decide; (simp only [go_sem, g5]; rfl); apply e_nil; apply t_append; decide; (simp only [go_sem, g5]; rfl); (simp only [go_sem, g5]; rfl); apply AApp_map el_33 (Gr.nil _ _ _) (l := []) (m := l) (g := Kn.cells) rfl rfl tk_33 kn_one (by simp; omega) (by simp; omega); intro s1 H1 hG1; have hx1 := hG1.ext; refine ⟨by (intro _; assumption), ?_⟩)
      (apply t_append; decide; (simp only [go_sem, g5]; rfl); (simp only [go_sem, g5]; rfl); apply AApp_map el_33 hG1 (l := [] ++ l) (m := [x]) (g := Kn.cells) rfl rfl tk_33 kn_one (by simp; omega) (by simp; omega); intro s2 H2 hG2; have hx2 := hG2.ext; refine ⟨by (intro _; assumption), ?_⟩)
      (apply t_call; decide; (simp only [go_sem]; rfl); (simp only [go_sem]; rfl); refine Gr.call (pre := []) (post := [.s name]) hG2 (fun _ => rfl) (fun _ => rfl) (fun t4 H4 hE4 => ?_); refine body_c t4 ([] ++ l ++ [x]) name (by simp; omega) hok2 H4 _ ?_; refine ⟨(fun h => absurd h (by decide)), ?_⟩; apply t_nil; simp only [AThen, ABlock]; (iterate 5 (apply e_q; decide; (simp only [go_sem]; rfl))); apply e_nil)
      rw [hbo]
      refine hK _ _ ?_
      clear hK
      (refine AWp_seq_k (fun K hK => ?_); apply s_region; (iterate 4 (apply s_q; decide; rfl; (simp only [go_sem]; rfl))); (iterate 3 (apply s_spec; decide; rfl; rfl; (simp only [go_sem]; rfl); (simp only [go_sem]; rfl); (simp only [go_sem]; rfl); (simp only [go_sem]; rfl); trivial)); apply s_pick; decide; (simp only [go_sem]; rfl); (simp only [go_sem]; rfl); (simp only [go_sem]; rfl); (simp only [go_sem]; rfl); (simp only [go_sem]; rfl); (simp only [go_sem]; rfl); trivial; trivial; trivial; apply s_q; decide; rfl; (simp only [go_sem]; rfl); apply s_gpure; decide; (simp only [go_sem]; rfl); (simp only [go_sem]; rfl); (simp only [go_sem]; rfl); trivial; (simp only [go_sem]; rfl); (simp only [go_sem]; rfl); (apply awake_c hS hKy; exact ⟨rfl, rfl⟩); apply s_pick; decide; (simp only [go_sem]; rfl); (simp only [go_sem]; rfl); (simp only [go_sem]; rfl); (simp only [go_sem]; rfl); (simp only [go_sem]; rfl); (simp only [go_sem]; rfl); trivial; trivial; trivial; apply s_q; decide; rfl; (simp only [go_sem]; rfl); apply s_nil; simp only [AThen, ABlock]; refine hK _ _ ?_; clear hK K; apply AWp_ret)
      refine ⟨H, Ext.trans hE hE4, finB h ?_⟩
      simp
end Go.Proofs.Ytmloandpjbimkaa
