/-
  receipt.Parse: which board a content tells. Contracts.
-/
import Derived.Test.YtpdfgmedbphmkaaDoorCH
import Derived.Test.YtpdfgmedbphmkaaDoorW26U
import Derived.Test.YtpdfgmedbphmkaaDoorAL4
set_option linter.unusedSimpArgs false
set_option linter.unusedVariables false
set_option maxRecDepth 100000
namespace Go.Proofs.YtpdfgmedbphmkaaDoor
open Go Go.AL
attribute [local irreducible] AOps AWp SOps AE AT ACall AApp

/-- slices.Equal at texts -/
theorem equalS_c (t t2 : Bool) (a c : List (List UInt8)) (ha : a.length ≤ 1000000000) (hc : c.length ≤ 1000000000) (H : AHeap) (Kc : AV → AHeap → Prop) (h : Kc (.v (.bool (decide (a = c)))) H) : ACall X 18 [.sl t (a.map strCells), .sl t2 (c.map strCells)] H Kc := by
  refine ACall_intro Tryd.func18 rfl (by kernel_rfl) (by rw [Tryd.ntmps18]; simp) ?_; rw [Tryd.ntmps18]; simp only [frame0, Nat.reduceAdd]
  (refine AWp_seq_k (fun K hK => ?_); apply s_region; apply s_q; decide; rfl; (simp only [go_sem]; rfl); apply s_nil; simp only [AThen, ABlock]; refine hK _ _ ?_; clear hK K; (iterate 2 (refine AWp_seq_k (fun K hK => ?_))); apply s_region; (iterate 5 (apply s_q; decide; rfl; (simp only [go_sem]; rfl))); apply s_nil; simp only [AThen, ABlock]; refine hK _ _ ?_; clear hK K)
  refine cond_split (by simp only [go_sem]; try rfl) (fun hl => ?_) (fun hl => ?_)
  · have hne : ¬ a.length = c.length := by simp at hl; omega
    have : ¬ a = c := fun e => hne (by rw [e])
    rw [decide_eq_false this] at h
    (refine AWp_seq_k (fun K hK => ?_); apply s_region; apply s_q; decide; rfl; (simp only [go_sem]; rfl); apply s_nil; simp only [AThen, ABlock]; refine hK _ _ ?_; clear hK K; apply AWp_ret; simp only [AThen, ABlock]; apply end_ret; rfl; simp only [AFr.get, reduceIte, Nat.reduceEqDiff])
    exact h
  have hl : a.length = c.length := by simp at hl; omega
  (apply AWp_skip; simp only [AThen, ABlock]; refine hK _ _ ?_; clear hK K; (iterate 2 (refine AWp_seq_k (fun K hK => ?_))); apply s_region; (iterate 3 (apply s_q; decide; rfl; (simp only [go_sem]; rfl))); apply s_nil; simp only [AThen, ABlock]; refine hK _ _ ?_; clear hK K; apply AWp_block)
  refine AWp_loop_s (σ := Nat) [0, 1, 12, 13] (fun i => [.sl t (a.map strCells), .sl t2 (c.map strCells), .v (.int .i64 a.length), .v (.int .i64 ((i : Nat) : Int))]) (fun _ => H) (fun i => a.length - i) (fun i => i ≤ a.length ∧ a.take i = c.take i) 0 ⟨Nat.zero_le _, by simp⟩ rfl rfl (fun i hi => ?_)
  obtain ⟨h1, h2⟩ := hi
  simp only [List.zip_cons_cons, List.zip_nil_right]
  (refine AWp_seq_k (fun K hK => ?_); apply s_region; apply s_q; decide; rfl; (simp only [go_sem]; rfl); apply s_nil; simp only [AThen, ABlock]; refine hK _ _ ?_; clear hK K; refine AWp_seq_k (fun K hK => ?_))
  refine cond_split (by simp only [go_sem]; try rfl) (fun hd => ?_) (fun hd => ?_)
  · have hlt : i < a.length := by simpa using hd
    obtain ⟨x, hx⟩ := gete hlt
    obtain ⟨y, hy⟩ := gete (l := c) (i := i) (by omega)
    have hgx := jstr_at hx
    have hgy := jstr_at hy
    (apply AWp_skip; simp only [AThen, ABlock]; refine hK _ _ ?_; clear hK K; refine AWp_seq_k (fun K hK => ?_); apply AWp_block; refine AWp_seq_k (fun K hK => ?_); apply s_region; (iterate 2 (apply s_q; decide; rfl; (simp only [go_sem]; rfl))); apply s_nil; simp only [AThen, ABlock]; refine hK _ _ ?_; clear hK K; refine AWp_seq_k (fun K hK => ?_))
    apply AWp_drawA [0, 1, 2, 3, 4, 5, 6, 7, 8] [] 0 (by exact mixed); kernel_rfl; (simp only [go_sem]; rfl); (simp only [go_sem]; rfl)
    ((iterate 9 (apply e_q; decide; (simp only [go_sem, hgx, hgy]; rfl))); apply e_nil; apply t_nil; simp only [AThen, ABlock]; refine hK _ _ ?_; clear hK K)
    refine cond_split (by simp only [go_sem]; try rfl) (fun he => ?_) (fun he => ?_)
    · have he : ¬ x = y := by simpa using he
      have : ¬ a = c := fun e => he (by rw [e, hy] at hx; cases hx; rfl)
      rw [decide_eq_false this] at h
      (refine AWp_seq_k (fun K hK => ?_); apply s_region; apply s_q; decide; rfl; (simp only [go_sem]; rfl); apply s_nil; simp only [AThen, ABlock]; refine hK _ _ ?_; clear hK K; apply AWp_ret; simp only [AThen, ABlock]; apply end_ret; rfl; simp only [AFr.get, reduceIte, Nat.reduceEqDiff])
      exact h
    · have he : x = y := by simpa using he
      subst he
      (apply AWp_skip; simp only [AThen, ABlock]; refine hK _ _ ?_; clear hK K; apply s_region; (iterate 2 (apply s_q; decide; rfl; (simp only [go_sem]; rfl))); apply s_nil; simp only [AThen, ABlock])
      refine ⟨i + 1, by omega, ⟨by omega, by rw [take_succ hx, take_succ hy, h2]⟩, ?_, by trivial⟩
      simp only [getAll, List.map_cons, List.map_nil, AFr.get, reduceIte, Nat.reduceEqDiff]
      rw [wrapS hlt (by omega)]; try rfl
  · have hge : a.length ≤ i := by simpa using hd
    rw [List.take_of_length_le hge, List.take_of_length_le (by omega)] at h2
    rw [decide_eq_true h2] at h
    (apply AWp_exit; simp only [AThen, ABlock, reduceIte, Nat.reduceEqDiff]; clear hK K; refine hK _ _ ?_; clear hK K; refine AWp_seq_k (fun K hK => ?_); apply s_region; apply s_q; decide; rfl; (simp only [go_sem]; rfl); apply s_nil; simp only [AThen, ABlock]; refine hK _ _ ?_; clear hK K; apply AWp_ret)
    exact h
abbrev atTs : List (List UInt8) := [[97, 116], [116, 115]]
def pairOf (x : J) : Option (Int × Int) := if x.keys = atTs then (match x.list with | [a, b] => if a.kind = 2 ∧ b.kind = 2 then some (a.int, b.int) else none | _ => none) else none
def recFold : List (List UInt8 × J) → List (List UInt8 × Mark) → Option (List (List UInt8 × Mark))
  | [], ms => some ms
  | p :: l, ms => match pairOf p.2 with
    | none => none
    | some n => if okMark ⟨p.1, n.1, n.2⟩ = true then recFold l (put1 ⟨p.1, n.1, n.2⟩ ms).2.2 else none
def recParse (c : J) : Option (List (List UInt8 × Mark)) := if c.kind = 5 then (if goodB 12 c = true then recFold (c.ord.keys.zip c.ord.list) [] else none) else none
theorem put1_code (m : Mark) (ms : List (List UInt8 × Mark)) : (put1 m ms).2.1 = if okMark m = true then 0 else 1 := by
  unfold put1
  cases okMark m with
  | false => rfl
  | true =>
    simp only [if_true]
    split
    · split <;> rfl
    · rfl
theorem drop_cons {α : Type} {l : List α} {i : Nat} {x : α} (h : l[i]? = some x) : l.drop i = x :: l.drop (i + 1) := by
  obtain ⟨hi, he⟩ := List.getElem?_eq_some_iff.1 h
  rw [← he, List.drop_eq_getElem_cons hi]
theorem ord_listW {j : J} (h5 : j.kind = 5) (hl : j.keys.length = j.list.length) {x : J} (hx : x ∈ j.ord.list) : ∃ y ∈ j.list, x = y.ord := by
  rw [ord_eq, if_pos h5] at hx
  simp only [J.list, List.mem_map] at hx
  obtain ⟨i, hi, rfl⟩ := hx
  have hlt := places_lt hi
  rw [hl] at hlt
  refine ⟨j.list[i], List.getElem_mem hlt, ?_⟩
  show (j.list.map J.ord).getD i (.mk 0 0 [] [] []) = _
  rw [List.getD_eq_getElem?_getD, List.getElem?_map, List.getElem?_eq_getElem hlt]; rfl
theorem shaped_ordW {j : J} (h : shapedB Lib.validD j = true) : shapedB Lib.validD j.ord = true := by
  have hkd : j.ord.kind = j.kind := by
    rw [ord_eq]; split
    · rename_i h; rw [h]; rfl
    · rfl
  have hint : j.ord.int = j.int := by rw [ord_eq]; split <;> rfl
  by_cases h5 : j.kind = 5
  · obtain ⟨s1, s2, s3⟩ := shaped_map h h5
    have hk : j.ord.keys = (placesOf j.keys).map fun i => j.keys.getD i [] := by rw [ord_eq, if_pos h5]; rfl
    have hl : j.ord.list = (placesOf j.keys).map fun i => (j.list.map J.ord).getD i (.mk 0 0 [] [] []) := by rw [ord_eq, if_pos h5]; rfl
    have hp : ((placesOf j.keys).map fun i => j.keys.getD i []).Perm j.keys := by
      refine ((places_perm j.keys).map _).trans ?_
      have : (List.range j.keys.length).map (fun i => j.keys.getD i []) = j.keys := by
        refine List.ext_getElem (by simp) (fun i h1 h2 => ?_)
        simp [List.getElem?_eq_getElem h2]
      rw [this]
    have hi : j.int = 0 ∧ j.text = [] := by simp [shapedB, h5] at h; exact ⟨h.1.1.2, h.1.2⟩
    have ht : j.ord.text = [] := by rw [ord_eq, if_pos h5]; exact hi.2
    have hn : namedB Lib.validD j.ord.keys = true := by
      rw [namedB, hk, decide_eq_true (hp.nodup_iff.2 s2), Bool.true_and, List.all_eq_true]
      intro x hx; exact s3 x (hp.mem_iff.1 hx)
    have hll : j.ord.keys.length = j.ord.list.length := by rw [hk, hl, List.length_map, List.length_map]
    simp [shapedB, hkd, h5, hint, hi.1, ht, hn, hll]
  · by_cases h4 : j.kind = 4
    · rw [ord_eq, if_neg h5]
      simp [shapedB, J.kind, J.keys, J.list, J.int, J.text, h4] at h ⊢
      cases j; simp_all only [J.kind, J.keys, J.list, J.int, J.text]
      simp at h ⊢
      exact ⟨h.1.2, h.2⟩
    · obtain ⟨n1, n2⟩ := shaped_none h h4 h5
      have e : j.ord = j := by
        rw [ord_eq, if_neg h5, n2]
        cases j; simp_all [J.kind, J.keys, J.list, J.int, J.text]
      rw [e]; exact h
set_option maxHeartbeats 8000000 in
theorem parseB_c (c : J) (hf : J.Fit c) (hk : ∀ k ∈ c.keys, k.length ≤ 200) (H : AHeap) (Kc : AV → AHeap → Prop) (hN : recParse c = none → Kc (.tup [.v (.pointer none), .v (.int .i64 1)]) H)
    (hS : ∀ ms, recParse c = some ms → ∀ p q L, H.get p = none → H.get q = none → IsBoard L p q ms → Ext H L → Kc (.tup [ptrTo p, .v (.int .i64 0)]) L) : ACall X 6 [.agg c.cells] H Kc := by
  refine ACall.drop ?_
  rw [J.cells_eq]
  refine ACall_intro Tryd.func6 rfl (by kernel_rfl) (by rw [Tryd.ntmps6]; simp) ?_; rw [Tryd.ntmps6]; simp only [frame0, Nat.reduceAdd]
  refine AWp_seq_k (fun K hK => ?_); apply s_region
  apply s_box; decide; exact (by simp only [go_sem]; try rfl); exact (by simp only [go_sem]; try rfl); intro p1 hp1
  ((iterate 2 (apply s_q; decide; rfl; (simp only [go_sem]; rfl))); apply s_nil; simp only [AThen, ABlock]; refine hK _ _ ?_; clear hK K; (iterate 2 (refine AWp_seq_k (fun K hK => ?_))); apply s_region; (iterate 4 (apply s_q; decide; rfl; (simp only [go_sem]; rfl))); apply s_spec; decide; rfl; rfl; (simp only [go_sem]; rfl); (simp only [go_sem]; rfl); (simp only [go_sem]; rfl); (simp only [go_sem]; rfl); trivial)
  generalize hgenq : AHeap.put p1 _ H = M; obtain ⟨g1, hextq⟩ := gen_ex hgenq hp1; have hE := hextq; clear hextq hgenq
  have hH1 : H.get p1 = none := hp1
  (apply s_gpure; decide; (simp only [go_sem, g1]; rfl); (simp only [go_sem, g1]; rfl); (simp only [go_sem, g1]; rfl); simp [condsOk]; (simp only [go_sem, g1]; rfl); (simp only [go_sem, g1]; rfl); (refine ACall.args_eq (bs := [.agg c.cells]) ?_ ?_; (focus (rw [J.cells_eq c]; done)); apply Good_c c _ _ hf; exact ⟨rfl, rfl⟩); apply s_spec; decide; rfl; rfl; (simp only [go_sem, g1]; rfl); (simp only [go_sem, g1]; rfl); (simp only [go_sem, g1]; rfl); (simp only [go_sem, g1]; rfl); simp [condsOk]; apply s_pick; decide; (simp only [go_sem, g1]; rfl); (simp only [go_sem, g1]; rfl); (simp only [go_sem, g1]; rfl); (simp only [go_sem, g1]; rfl); (simp only [go_sem, g1]; rfl); (simp only [go_sem, g1]; rfl); trivial; trivial; simp [condsOk]; apply s_nil; simp only [AThen, ABlock]; refine hK _ _ ?_; clear hK K)
  refine cond_split (by simp only [go_sem]; try rfl) (fun hc => ?_) (fun hc => ?_)
  · have hn : recParse c = none := by
      rw [recParse]
      by_cases h5 : c.kind = 5
      · rw [if_pos h5, if_neg (by simpa [h5] using hc)]
      · rw [if_neg h5]
    (refine AWp_seq_k (fun K hK => ?_); apply s_region; (iterate 2 (apply s_q; decide; rfl; (simp only [go_sem]; rfl))); apply s_nil; simp only [AThen, ABlock]; refine hK _ _ ?_; clear hK K; apply AWp_ret; simp only [AThen, ABlock]; apply end_ret; rfl; simp only [AFr.get, reduceIte, Nat.reduceEqDiff])
    exact ⟨H, hE, hN hn⟩
  have hc' : c.kind = 5 ∧ goodB 12 c = true := by
    by_cases h5 : c.kind = 5
    · refine ⟨h5, ?_⟩; simpa [h5] using hc
    · simp [h5] at hc
  obtain ⟨h5, hg⟩ := hc'
  obtain ⟨w, hw⟩ : ∃ w, w = c.ord := ⟨_, rfl⟩
  have hrp : recParse c = recFold (w.keys.zip w.list) [] := by rw [recParse, if_pos h5, if_pos hg, hw]
  have hOrd : ∀ (H : AHeap) (K : AV → AHeap → Prop), K (.agg [.v (.int .i64 w.kind), .v (.int .i64 w.int), .s w.text, .sl false (w.keys.map strCells), .sl false (w.list.map J.cells)]) H → ACall X 17 [.agg c.cells] H K := fun H K hk => Order_c c hf (by rw [if_pos hg, ← hw, J.cells_eq]; exact hk)
  have hwl : w.keys.length = w.list.length ∧ w.keys.length ≤ 1000000000 := by
    have f := (fit_eq.1 hf).1
    rw [hw, ord_eq, if_pos h5]
    refine ⟨by simp [J.keys, J.list], ?_⟩
    simp only [J.keys, List.length_map, places_len]; exact f.1
  have hwk : ∀ k ∈ w.keys, k.length ≤ 200 := fun k hkk => by
    rw [hw, ord_eq, if_pos h5] at hkk
    simp only [J.keys, List.mem_map] at hkk
    obtain ⟨i, hi, rfl⟩ := hkk
    have hlt := places_lt hi
    rw [List.getD_eq_getElem?_getD, List.getElem?_eq_getElem hlt]
    exact hk _ (List.getElem_mem hlt)
  have hwx : ∀ x ∈ w.list, x.keys.length ≤ 1000000000 ∧ shapedB Lib.validD x = true := fun x hx => by
    rw [hw] at hx
    obtain ⟨y, hy, rfl⟩ := ord_listW h5 (shaped_map (good_shaped hg) h5).1 hx
    have hyf := (fit_eq.1 ((fit_eq.1 hf).2.2.2 y hy)).1
    refine ⟨?_, ?_⟩
    · rw [ord_eq]; split
      · simp only [J.keys, List.length_map, places_len]; exact hyf.1
      · simp [J.keys]
    · rw [goodB] at hg
      simp only [Bool.and_eq_true, List.all_eq_true] at hg
      exact shaped_ordW (good_shaped (hg.2 y hy))
  apply AWp_skip; simp only [AThen, ABlock]; refine hK _ _ ?_; clear hK K
  refine AWp_seq_k (fun K hK => ?_); apply s_region
  (apply s_q; decide; rfl; (simp only [go_sem, g1]; rfl); apply s_call; decide; (simp only [go_sem, g1]; rfl); (simp only [go_sem, g1]; rfl); refine ACall.args_eq (bs := [.agg c.cells]) ?_ ?_; (focus (rw [J.cells_eq c]; done)); apply hOrd; apply s_store; (simp only [go_sem, g1]; rfl); (simp only [go_sem, g1]; rfl); (simp only [go_sem, g1]; rfl))
  apply s_nil; simp only [AThen, ABlock]; refine hK _ _ ?_; clear hK K
  have g2 := AHeap.get_put_same p1 (jbox w.kind w.int w.text (.sl false (w.keys.map strCells)) (.sl false (w.list.map J.cells))) M
  have hE2 := hE.over hH1 (o := jbox w.kind w.int w.text (.sl false (w.keys.map strCells)) (.sl false (w.list.map J.cells)))
  generalize AHeap.put p1 (jbox w.kind w.int w.text (.sl false (w.keys.map strCells)) (.sl false (w.list.map J.cells))) M = M2 at g2 hE2 ⊢
  refine AWp_seq_k (fun K hK => ?_); apply s_region
  (apply s_call; decide; (simp only [go_sem, g2]; rfl); (simp only [go_sem, g2]; rfl); refine new_c _ _ (fun q p hq hp => ?_); apply s_q; decide; rfl; (simp only [go_sem, g2]; rfl))
  have hHq : H.get q = none := none_of_ext hE2 hq
  have h1q := get_ne_fresh g2 hq
  generalize hgenq : AHeap.put q _ M2 = M3 at hp ⊢; obtain ⟨gq, hextq⟩ := gen_ex hgenq hq; have g2 := hextq _ _ g2; have hE2 := Ext.trans hE2 hextq; clear hextq hgenq
  have hHp : H.get p = none := none_of_ext hE2 hp
  have h1p := get_ne_fresh g2 hp
  generalize hgenq : AHeap.put p _ M3 = M4; obtain ⟨gp, hextq⟩ := gen_ex hgenq hp; have g2 := hextq _ _ g2; have gq := hextq _ _ gq; have hE2 := Ext.trans hE2 hextq; clear hextq hgenq
  have hB : IsBoard M4 p q [] := ⟨gp, gq⟩
  have hllk : (w.keys.map strCells).length = w.keys.length := List.length_map ..
  (apply s_nil; simp only [AThen, ABlock]; refine hK _ _ ?_; clear hK K; (iterate 2 (refine AWp_seq_k (fun K hK => ?_))); apply s_region; (iterate 4 (apply s_q; decide; rfl; (simp only [go_sem, g2]; rfl))); apply s_nil; simp only [AThen, ABlock]; refine hK _ _ ?_; clear hK K; apply AWp_block)
  obtain ⟨z, hz⟩ : ∃ z, z = w.keys.zip w.list := ⟨_, rfl⟩
  rw [← hz] at hrp
  refine AWp_loop_s (σ := Nat × List (List UInt8 × Mark) × AHeap) [1, 4, 22, 23, 24] (fun s => [ptrTo p1, ptrTo p, .sl false (w.keys.map strCells), .v (.int .i64 (w.keys.length : Nat)), .v (.int .i64 ((s.1 : Nat) : Int))]) (fun s => s.2.2) (fun s => w.keys.length - s.1)
    (fun s => s.1 ≤ w.keys.length ∧ s.2.2.get p1 = some (jbox w.kind w.int w.text (.sl false (w.keys.map strCells)) (.sl false (w.list.map J.cells))) ∧ IsBoard s.2.2 p q s.2.1 ∧ Ext H s.2.2 ∧ recParse c = recFold (z.drop s.1) s.2.1)
    (0, [], M4) ⟨Nat.zero_le _, g2, hB, hE2, hrp⟩ rfl rfl (fun s hs => ?_)
  obtain ⟨i, ms, L⟩ := s
  obtain ⟨hi, g1L, hBL, hEL, hrL⟩ := hs
  clear g2 hB hE2 gq gp
  simp only [List.zip_cons_cons, List.zip_nil_right] at hi g1L hBL hEL hrL ⊢
  (refine AWp_seq_k (fun K hK => ?_); apply s_region; apply s_q; decide; rfl; (simp only [go_sem]; rfl); apply s_nil; simp only [AThen, ABlock]; refine hK _ _ ?_; clear hK K; refine AWp_seq_k (fun K hK => ?_))
  refine cond_split (by simp only [go_sem]; try rfl) (fun hd => ?_) (fun hd => ?_)
  · have hlt : i < w.keys.length := by simpa using hd
    obtain ⟨u, hu⟩ := gete hlt
    have hgu := jstr_at hu
    obtain ⟨x, hx⟩ := gete (l := w.list) (i := i) (by omega)
    have hgx := jget_at hx
    have hul := hwk u (List.mem_of_getElem? hu)
    obtain ⟨hxl, hxs⟩ := hwx x (List.mem_of_getElem? hx)
    have hzi : z[i]? = some (u, x) := by rw [hz, List.getElem?_zip_eq_some]; exact ⟨hu, hx⟩
    rw [drop_cons hzi, recFold] at hrL
    (apply AWp_skip; simp only [AThen, ABlock]; refine hK _ _ ?_; clear hK K; refine AWp_seq_k (fun K hK => ?_); apply AWp_block; refine AWp_seq_k (fun K hK => ?_); apply s_region; (iterate 5 (apply s_q; decide; rfl; (simp only [go_sem, hgu, g1L, hgx]; rfl))); apply s_nil; simp only [AThen, ABlock]; refine hK _ _ ?_; clear hK K; refine AWp_seq_k (fun K hK => ?_); apply s_region; (iterate 5 (apply s_q; decide; rfl; (simp only [go_sem, hgu, g1L, hgx]; rfl))); apply s_alloc; decide; exact zc_34; intro b hb; apply s_store; (simp only [go_sem, hgu, g1L, hgx]; rfl); (simp only [go_sem, hgu, g1L, hgx]; rfl); (simp only [go_sem, hgu, g1L, hgx]; rfl); apply s_nil; simp only [AThen, ABlock]; refine hK _ _ ?_; clear hK K; (iterate 2 (refine AWp_seq_k (fun K hK => ?_))); apply s_region; (iterate 2 (apply s_q; decide; rfl; (simp only [go_sem, hgu, g1L, hgx]; rfl))); apply s_lit; decide; exact el_31; (simp only [go_sem, hgu, g1L, hgx]; rfl); (simp only [go_sem, hgu, g1L, hgx]; rfl); decide)
    obtain ⟨p7, hnewq⟩ : ∃ q, q = b := ⟨_, rfl⟩; have hp7 := hb; rw [← hnewq] at hp7 ⊢; clear hb hnewq; try clear he; clear b
    have hB7 := hBL.fresh (o := jbox x.kind x.int x.text (.sl false (x.keys.map strCells)) (.sl false (x.list.map J.cells))) hp7
    have h17 := get_ne_fresh g1L hp7
    generalize hgenq : AHeap.put p7 _ L = L2 at hB7 ⊢; obtain ⟨g7, hextq⟩ := gen_ex hgenq hp7; have g1L := hextq _ _ g1L; have hEL := Ext.trans hEL hextq; clear hextq hgenq
    by_cases hxk : x.keys = atTs
    · have hx5 : x.kind = 5 := by
        by_cases h5' : x.kind = 5
        · exact h5'
        · by_cases h4' : x.kind = 4
          · have := shaped_list hxs h4'; rw [this] at hxk; cases hxk
          · have := (shaped_none hxs h4' h5').1; rw [this] at hxk; cases hxk
      have hx2 := (shaped_map hxs hx5).1
      obtain ⟨a0, a1, hab⟩ : ∃ a0 a1, x.list = [a0, a1] := by
        rw [hxk] at hx2
        match hl : x.list, hx2 with
        | [a0, a1], _ => exact ⟨a0, a1, rfl⟩
      have hga := jget_at (l := x.list) (i := 0) (c := a0) (by rw [hab]; rfl)
      have hgb := jget_at (l := x.list) (i := 1) (c := a1) (by rw [hab]; rfl)
      have hxd : decide (x.keys = atTs) = true := decide_eq_true hxk
      (apply s_call; decide; (simp only [go_sem, g7, hxd]; rfl); (simp only [go_sem, g7, hxd]; rfl); refine ACall.args_eq (bs := [.sl false (x.keys.map strCells), .sl true (atTs.map strCells)]) (by rfl) ?_; apply equalS_c _ _ _ _ hxl (by decide); (iterate 2 (apply s_q; decide; rfl; (simp only [go_sem, g7, hxd]; rfl))); (iterate 2 (apply s_spec; decide; rfl; rfl; (simp only [go_sem, g7, hxd]; rfl); (simp only [go_sem, g7, hxd]; rfl); (simp only [go_sem, g7, hxd]; rfl); (simp only [go_sem, g7, hxd]; rfl); trivial)); apply s_when; decide; (simp only [go_sem, g7, hxd]; rfl); (simp only [go_sem, g7, hxd]; rfl); (simp only [go_sem, g7, hxd]; rfl); trivial; (intro hg; simp only [go_sem, g7, hga, hgb]; try rfl); (iterate 3 (apply s_spec; decide; rfl; rfl; (simp only [go_sem, g7, hxd]; rfl); (simp only [go_sem, g7, hxd]; rfl); (simp only [go_sem, g7, hxd]; rfl); (simp only [go_sem, g7, hxd]; rfl); trivial)); apply s_pick; decide; (simp only [go_sem, g7, hxd]; rfl); (simp only [go_sem, g7, hxd]; rfl); (simp only [go_sem, g7, hxd]; rfl); (simp only [go_sem, g7, hxd]; rfl); (simp only [go_sem, g7, hxd]; rfl); (simp only [go_sem, g7, hxd]; rfl); trivial; trivial; trivial; apply s_q; decide; rfl; (simp only [go_sem, g7, hxd]; rfl); apply s_spec; decide; rfl; rfl; (simp only [go_sem, g7, hxd]; rfl); (simp only [go_sem, g7, hxd]; rfl); (simp only [go_sem, g7, hxd]; rfl); (simp only [go_sem, g7, hxd]; rfl); trivial; apply s_spec; decide; rfl; rfl; (simp only [go_sem, g7, hxd]; rfl); (simp only [go_sem, g7, hxd]; rfl); (simp only [go_sem, g7, hxd]; rfl); (simp only [go_sem, g7, hxd]; rfl); simp [condsOk]; apply s_when; decide; (simp only [go_sem, g7, hxd]; rfl); (simp only [go_sem, g7, hxd]; rfl); (simp only [go_sem, g7, hxd]; rfl); simp [condsOk]; (intro hg; simp only [go_sem, g7, hga, hgb]; try rfl); (iterate 3 (apply s_spec; decide; rfl; rfl; (simp only [go_sem, g7, hxd]; rfl); (simp only [go_sem, g7, hxd]; rfl); (simp only [go_sem, g7, hxd]; rfl); (simp only [go_sem, g7, hxd]; rfl); simp [condsOk])); apply s_pick; decide; (simp only [go_sem, g7, hxd]; rfl); (simp only [go_sem, g7, hxd]; rfl); (simp only [go_sem, g7, hxd]; rfl); (simp only [go_sem, g7, hxd]; rfl); (simp only [go_sem, g7, hxd]; rfl); (simp only [go_sem, g7, hxd]; rfl); trivial; trivial; simp [condsOk]; apply s_nil; simp only [AThen, ABlock]; refine hK _ _ ?_; clear hK K)
      refine cond_split (by simp only [go_sem]; try rfl) (fun he => ?_) (fun he => ?_)
      · have hpn : pairOf x = none := by
          rw [pairOf, if_pos hxk, hab]
          by_cases q0 : a0.kind = 2
          · by_cases q1 : a1.kind = 2
            · simp [q0, q1] at he
            · simp [q1]
          · simp [q0]
        rw [hpn] at hrL
        (refine AWp_seq_k (fun K hK => ?_); apply s_region; (iterate 2 (apply s_q; decide; rfl; (simp only [go_sem]; rfl))); apply s_nil; simp only [AThen, ABlock]; refine hK _ _ ?_; clear hK K; apply AWp_ret; simp only [AThen, ABlock]; apply end_ret; rfl; simp only [AFr.get, reduceIte, Nat.reduceEqDiff])
        exact ⟨H, hEL, hN hrL⟩
      have hpn : pairOf x = some (a0.int, a1.int) := by
        rw [pairOf, if_pos hxk, hab]
        by_cases q0 : a0.kind = 2
        · by_cases q1 : a1.kind = 2
          · simp [q0, q1]
          · simp [q0, q1] at he
        · simp [q0] at he
      rw [hpn] at hrL
      have hrL : recParse c = if okMark ⟨u, a0.int, a1.int⟩ = true then recFold (z.drop (i + 1)) (put1 ⟨u, a0.int, a1.int⟩ ms).2.2 else none := hrL
      have hcode := put1_code ⟨u, a0.int, a1.int⟩ ms
      obtain ⟨r1, r2, r3, hput⟩ : ∃ r1 r2 r3, put1 ⟨u, a0.int, a1.int⟩ ms = (r1, r2, r3) := ⟨_, _, _, rfl⟩
      rw [hput] at hcode hrL
      simp only at hcode hrL
      have hq8 : u.length < 4294967281 := by omega
      apply AWp_skip; simp only [AThen, ABlock]; refine hK _ _ ?_; clear hK K
      refine AWp_seq_k (fun K0 hK0 => ?_)
      have hgo : ∀ fr L3, IsBoard L3 p q r3 → L3 = L2.put q (.smap (ents r3)) → getAll [1, 4, 9, 22, 23, 24] fr = [ptrTo p1, ptrTo p, .v (.int .i64 r2), .sl false (w.keys.map strCells), .v (.int .i64 (w.keys.length : Nat)), .v (.int .i64 ((i : Nat) : Int))] → K0 fr L3 := fun fr L3 hB3 hL3 hfr => by
        refine hK0 _ _ (AWp_cut _ hfr ?_)
        simp only [List.zip_cons_cons, List.zip_nil_right]
        clear hK0
        have g1L3 : L3.get p1 = some (jbox w.kind w.int w.text (.sl false (w.keys.map strCells)) (.sl false (w.list.map J.cells))) := by rw [hL3]; exact get_other g1L h1q
        have hEL3 : Ext H L3 := by rw [hL3]; exact hEL.over hHq
        (refine AWp_seq_k (fun K hK => ?_); apply s_region; (iterate 2 (apply s_q; decide; rfl; (simp only [go_sem]; rfl))); apply s_nil; simp only [AThen, ABlock]; refine hK _ _ ?_; clear hK K)
        refine cond_split (by simp only [go_sem]; try rfl) (fun hf => ?_) (fun hf => ?_)
        · have ho : ¬ okMark ⟨u, a0.int, a1.int⟩ = true := fun ho => by rw [if_pos ho] at hcode; rw [hcode] at hf; simp at hf
          rw [if_neg ho] at hrL
          (refine AWp_seq_k (fun K hK => ?_); apply s_region; (iterate 2 (apply s_q; decide; rfl; (simp only [go_sem]; rfl))); apply s_nil; simp only [AThen, ABlock]; refine hK _ _ ?_; clear hK K; apply AWp_ret; simp only [AThen, ABlock]; apply end_ret; rfl; simp only [AFr.get, reduceIte, Nat.reduceEqDiff])
          exact ⟨H, hEL3, hN hrL⟩
        · have ho : okMark ⟨u, a0.int, a1.int⟩ = true := by
            by_cases ho : okMark ⟨u, a0.int, a1.int⟩ = true
            · exact ho
            · rw [if_neg ho] at hcode; rw [hcode] at hf; simp at hf
          rw [if_pos ho] at hrL
          (apply AWp_skip; simp only [AThen, ABlock]; refine hK _ _ ?_; clear hK K; apply s_region; (iterate 2 (apply s_q; decide; rfl; (simp only [go_sem]; rfl))); apply s_nil; simp only [AThen, ABlock])
          refine ⟨(i + 1, r3, L3), by simp only; omega, ⟨by simp only; omega, g1L3, hB3, hEL3, hrL⟩, ?_, by trivial⟩
          simp only [getAll, List.map_cons, List.map_nil, AFr.get, reduceIte, Nat.reduceEqDiff]
          rw [wrapS hlt (by omega)]; try rfl
      clear hK0
      apply AWp_drawP [0, 1, 2, 3, 4, 5, 6, 7, 8, 9, 10, 11, 12] [13] [14, 15, 16, 17, 18] 0 (by exact mixed); kernel_rfl; (simp only [go_sem]; rfl); (simp only [go_sem]; rfl); (simp only [go_sem]; rfl)
      ((iterate 13 (apply e_q; decide; (simp only [go_sem, g7, hga, hgb]; rfl))); apply e_nil; apply t_call; decide; (simp only [go_sem, g7, hga, hgb]; rfl); (simp only [go_sem, g7, hga, hgb]; rfl); apply putk_c p q u a0.int a1.int ms r3 r1 r2 hq8 hput _ hB7; intro L3 hB3 hL3; refine ⟨(fun h => absurd h (by decide)), ?_⟩; apply t_nil; simp only [AThen, ABlock]; (iterate 5 (apply e_q; decide; (simp only [go_sem, g7, hga, hgb]; rfl))); apply e_nil)
      exact hgo _ _ hB3 hL3 rfl
    · have hpn : pairOf x = none := by rw [pairOf, if_neg hxk]
      have hxd : decide (x.keys = atTs) = false := decide_eq_false hxk
      rw [hpn] at hrL
      (apply s_call; decide; (simp only [go_sem, g7, hxd]; rfl); (simp only [go_sem, g7, hxd]; rfl); refine ACall.args_eq (bs := [.sl false (x.keys.map strCells), .sl true (atTs.map strCells)]) (by rfl) ?_; apply equalS_c _ _ _ _ hxl (by decide); (iterate 2 (apply s_q; decide; rfl; (simp only [go_sem, g7, hxd]; rfl))); (iterate 2 (apply s_spec; decide; rfl; rfl; (simp only [go_sem, g7, hxd]; rfl); (simp only [go_sem, g7, hxd]; rfl); (simp only [go_sem, g7, hxd]; rfl); (simp only [go_sem, g7, hxd]; rfl); trivial)); (iterate 4 (apply s_when (av := (.v (.bool false))); decide; (simp only [go_sem, g7, hxd]; rfl); (simp only [go_sem, g7, hxd]; rfl); (simp only [go_sem, g7, hxd]; rfl); trivial; (focus (intro hg; first | (cases hg; done) | (simp at hg; done))))); apply s_pick; decide; (simp only [go_sem, g7, hxd]; rfl); (simp only [go_sem, g7, hxd]; rfl); (simp only [go_sem, g7, hxd]; rfl); (simp only [go_sem, g7, hxd]; rfl); (simp only [go_sem, g7, hxd]; rfl); (simp only [go_sem, g7, hxd]; rfl); trivial; trivial; trivial; apply s_q; decide; rfl; (simp only [go_sem, g7, hxd]; rfl); (iterate 2 (apply s_spec; decide; rfl; rfl; (simp only [go_sem, g7, hxd]; rfl); (simp only [go_sem, g7, hxd]; rfl); (simp only [go_sem, g7, hxd]; rfl); (simp only [go_sem, g7, hxd]; rfl); trivial)); (iterate 4 (apply s_when (av := (.v (.bool false))); decide; (simp only [go_sem, g7, hxd]; rfl); (simp only [go_sem, g7, hxd]; rfl); (simp only [go_sem, g7, hxd]; rfl); trivial; (focus (intro hg; first | (cases hg; done) | (simp at hg; done))))); apply s_pick; decide; (simp only [go_sem, g7, hxd]; rfl); (simp only [go_sem, g7, hxd]; rfl); (simp only [go_sem, g7, hxd]; rfl); (simp only [go_sem, g7, hxd]; rfl); (simp only [go_sem, g7, hxd]; rfl); (simp only [go_sem, g7, hxd]; rfl); trivial; trivial; trivial; apply s_nil; simp only [AThen, ABlock]; refine hK _ _ ?_; clear hK K)
      refine cond_split (by simp only [go_sem]; try rfl) (fun he => ?_) (fun he => ?_)
      · (refine AWp_seq_k (fun K hK => ?_); apply s_region; (iterate 2 (apply s_q; decide; rfl; (simp only [go_sem]; rfl))); apply s_nil; simp only [AThen, ABlock]; refine hK _ _ ?_; clear hK K; apply AWp_ret; simp only [AThen, ABlock]; apply end_ret; rfl; simp only [AFr.get, reduceIte, Nat.reduceEqDiff])
        exact ⟨H, hEL, hN hrL⟩
      · simp at he
  · have hge : z.length ≤ i := by rw [hz, List.length_zip]; simp at hd; omega
    rw [List.drop_eq_nil_of_le hge, recFold] at hrL
    (apply AWp_exit; simp only [AThen, ABlock, reduceIte, Nat.reduceEqDiff]; clear hK K; refine hK _ _ ?_; clear hK K; refine AWp_seq_k (fun K hK => ?_); apply s_region; (iterate 3 (apply s_q; decide; rfl; (simp only [go_sem]; rfl))); apply s_nil; simp only [AThen, ABlock]; refine hK _ _ ?_; clear hK K; apply AWp_ret)
    exact ⟨L, Ext.refl _, hS ms hrL p q L hHp hHq hBL hEL⟩
end Go.Proofs.YtpdfgmedbphmkaaDoor
