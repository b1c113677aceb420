/-
  The document's Parse of a board's content. Contract.
-/
import Derived.Test.YtpdfgmedbphmkaaGreatDoorW26P
import Derived.Test.YtpdfgmedbphmkaaGreatDoorW26W
import Derived.Test.YtpdfgmedbphmkaaGreatDoorW26Pl
import Derived.Test.YtpdfgmedbphmkaaGreatDoorRO
import Derived.Test.YtpdfgmedbphmkaaGreatDoorRG
set_option linter.unusedSimpArgs false
set_option linter.unusedVariables false
set_option maxRecDepth 100000
namespace Go.Proofs.YtpdfgmedbphmkaaGreatDoor
open Go Go.AL
attribute [local irreducible] AOps AWp SOps AE AT ACall AApp

def gi (o : Option J) : Int := match o with | some x => x.int | none => 0
def rmark (p : List UInt8 × J) : Mark := ⟨p.1, gi (jGet p.2 [97, 116]), gi (jGet p.2 [116, 115])⟩
def refFold : List (List UInt8 × J) → List (List UInt8 × Mark) → Option (List (List UInt8 × Mark))
  | [], ms => some ms
  | p :: l, ms => if okMark (rmark p) = true then refFold l (put1 (rmark p) ms).2.2 else none
def refParse (c : J) : Option (List (List UInt8 × Mark)) := if c.kind = 5 then (if goodB 12 c = true then (match refFold (c.keys.zip c.list) [] with | some ms => if J.same (contentJ (allOf ms)) c.ord = true then some ms else none | none => none) else none) else none
theorem getRes_gi (o : Option J) : ∃ (x : J) (b : Bool), getRes o = .tup [.agg x.cells, .v (.bool b)] ∧ x.int = gi o := by
  cases o with
  | none => exact ⟨.mk 0 0 [] [] [], false, rfl, rfl⟩
  | some x => exact ⟨x, true, rfl, rfl⟩
set_option maxHeartbeats 8000000 in
theorem parseR_c (c : J) (hf : J.Fit c) (hkl : c.keys.length ≤ 60) (hk : ∀ k ∈ c.keys, k.length ≤ 200) (H : AHeap) (Kc : AV → AHeap → Prop) (hN : refParse c = none → Kc (.tup [.v (.pointer none), .v (.int .i64 1)]) H)
    (hS : ∀ ms, refParse c = some ms → ∀ p t L, H.get p = none → RB L p t (allOf ms) → Ext H L → Kc (.tup [ptrTo p, .v (.int .i64 0)]) L) : ACall X 6 [.agg c.cells] H Kc := by
  refine ACall.drop ?_
  rw [J.cells_eq]
  refine ACall_intro Tryz.func6 rfl (by kernel_rfl) (by rw [Tryz.ntmps6]; simp) ?_; rw [Tryz.ntmps6]; simp only [frame0, Nat.reduceAdd]
  refine AWp_seq_k (fun K hK => ?_); apply s_region
  apply s_box; decide; exact (by simp only [go_sem]; try rfl); exact (by simp only [go_sem]; try rfl); intro p1 hp1
  ((iterate 2 (apply s_q; decide; rfl; (simp only [go_sem]; rfl))))
  apply s_nil; simp only [AThen, ABlock]; refine hK _ _ ?_; clear hK K
  refine AWp_seq_k (fun K hK => ?_); apply s_region
  (apply s_q; decide; rfl; (simp only [go_sem]; rfl); apply s_box; decide; (simp only [go_sem]; rfl); (simp only [go_sem]; rfl); intro b hb; apply s_q; decide; rfl; (simp only [go_sem]; rfl))
  apply s_nil; simp only [AThen, ABlock]; refine hK _ _ ?_; clear hK K
  obtain ⟨p, hnewq⟩ : ∃ q, q = b := ⟨_, rfl⟩; have hp := hb; rw [← hnewq] at hp ⊢; clear hb hnewq; try clear he; clear b
  generalize hgenq : AHeap.put p1 _ H = M at hp ⊢; obtain ⟨g1, hextq⟩ := gen_ex hgenq hp1; have hE := hextq; clear hextq hgenq
  have hH1 : H.get p1 = none := hp1
  have hHp : H.get p = none := none_of_ext hE hp
  have h1p := get_ne_fresh g1 hp
  generalize hgenq : AHeap.put p _ M = M2; obtain ⟨gp, hextq⟩ := gen_ex hgenq hp; have g1 := hextq _ _ g1; have hE := Ext.trans hE hextq; clear hextq hgenq
  ((iterate 2 (refine AWp_seq_k (fun K hK => ?_))); apply s_region; (iterate 4 (apply s_q; decide; rfl; (simp only [go_sem, g1]; rfl))); apply s_spec; decide; rfl; rfl; (simp only [go_sem, g1]; rfl); (simp only [go_sem, g1]; rfl); (simp only [go_sem, g1]; rfl); (simp only [go_sem, g1]; rfl); trivial; apply s_gpure; decide; (simp only [go_sem, g1]; rfl); (simp only [go_sem, g1]; rfl); (simp only [go_sem, g1]; rfl); simp [condsOk]; (simp only [go_sem, g1]; rfl); (simp only [go_sem, g1]; rfl); (refine ACall.args_eq (bs := [.agg c.cells]) ?_ ?_; (focus (rw [J.cells_eq c]; done)); apply rGood_c c _ _ hf; exact ⟨rfl, rfl⟩); apply s_spec; decide; rfl; rfl; (simp only [go_sem, g1]; rfl); (simp only [go_sem, g1]; rfl); (simp only [go_sem, g1]; rfl); (simp only [go_sem, g1]; rfl); simp [condsOk]; apply s_pick; decide; (simp only [go_sem, g1]; rfl); (simp only [go_sem, g1]; rfl); (simp only [go_sem, g1]; rfl); (simp only [go_sem, g1]; rfl); (simp only [go_sem, g1]; rfl); (simp only [go_sem, g1]; rfl); trivial; trivial; simp [condsOk]; apply s_nil; simp only [AThen, ABlock]; refine hK _ _ ?_; clear hK K)
  refine cond_split (by simp only [go_sem]; try rfl) (fun hc => ?_) (fun hc => ?_)
  · have hn : refParse c = none := by
      rw [refParse]
      by_cases h5 : c.kind = 5
      · rw [if_pos h5, if_neg (by simpa [h5] using hc)]
      · rw [if_neg h5]
    (refine AWp_seq_k (fun K hK => ?_); apply s_region; (iterate 2 (apply s_q; decide; rfl; (simp only [go_sem]; rfl))); apply s_nil; simp only [AThen, ABlock]; refine hK _ _ ?_; clear hK K; apply AWp_ret; simp only [AThen, ABlock]; apply end_ret; rfl; simp only [AFr.get, reduceIte, Nat.reduceEqDiff])
    exact ⟨H, hE, hN hn⟩
  have hc' : c.kind = 5 ∧ goodB 12 c = true := by
    by_cases h5 : c.kind = 5
    · refine ⟨h5, ?_⟩; simpa [h5] using hc
    · simp [h5] at hc
  obtain ⟨h5, hg⟩ := hc'
  obtain ⟨s1, s2, s3⟩ := shaped_map (good_shaped hg) h5
  obtain ⟨z, hz⟩ : ∃ z, z = c.keys.zip c.list := ⟨_, rfl⟩
  have hrp : refParse c = match refFold z [] with | some ms => if J.same (contentJ (allOf ms)) c.ord = true then some ms else none | none => none := by rw [refParse, if_pos h5, if_pos hg, hz]
  have hxl : ∀ x ∈ c.list, x.keys.length ≤ 9223372036854775807 ∧ x.list.length ≤ 9223372036854775807 := fun x hx => by
    have := (fit_eq.1 ((fit_eq.1 hf).2.2.2 x hx)).1; omega
  have hRB : RB M2 p true (allOf []) := by rw [show allOf [] = [] by simp [allOf, sortL]]; exact gp
  (apply AWp_skip; simp only [AThen, ABlock]; refine hK _ _ ?_; clear hK K; (iterate 2 (refine AWp_seq_k (fun K hK => ?_))); apply s_region; apply s_q; decide; rfl; (simp only [go_sem]; rfl); apply s_nil; simp only [AThen, ABlock]; refine hK _ _ ?_; clear hK K; apply AWp_block)
  refine AWp_loop_s (σ := Nat × List (List UInt8 × Mark) × Bool × AHeap) [1, 4, 5] (fun s => [ptrTo p1, ptrTo p, .v (.int .i64 ((s.1 : Nat) : Int))]) (fun s => s.2.2.2) (fun s => c.keys.length - s.1)
    (fun s => s.1 ≤ c.keys.length ∧ s.2.2.2.get p1 = some (jbox c.kind c.int c.text (.sl false (c.keys.map strCells)) (.sl false (c.list.map J.cells))) ∧ RB s.2.2.2 p s.2.2.1 (allOf s.2.1) ∧ Ext H s.2.2.2 ∧ Nod s.2.1 ∧ Own s.2.1 ∧ s.2.1.length ≤ s.1 ∧ refFold z [] = refFold (z.drop s.1) s.2.1)
    (0, [], true, M2) ⟨Nat.zero_le _, g1, hRB, hE, List.nodup_nil, (fun u x h => by cases h), Nat.le_refl _, rfl⟩ rfl rfl (fun s hs => ?_)
  obtain ⟨i, ms, tb, L⟩ := s
  obtain ⟨hi, g1L, hBL, hEL, hnd, hown, hmsl, hrL⟩ := hs
  clear g1 hRB hE gp
  simp only [List.zip_cons_cons, List.zip_nil_right] at hi g1L hBL hEL hnd hown hmsl hrL ⊢
  ((iterate 2 (refine AWp_seq_k (fun K hK => ?_))); apply s_region; (iterate 5 (apply s_q; decide; rfl; (simp only [go_sem, g1L]; rfl))); apply s_nil; simp only [AThen, ABlock]; refine hK _ _ ?_; clear hK K)
  refine cond_split (by simp only [go_sem]; try rfl) (fun hd => ?_) (fun hd => ?_)
  · have hlt : i < c.keys.length := by simpa using hd
    obtain ⟨u, hu⟩ := gete hlt
    have hgu := jstr_at hu
    obtain ⟨x, hx⟩ := gete (l := c.list) (i := i) (by omega)
    have hgx := jget_at hx
    have hul := hk u (List.mem_of_getElem? hu)
    have hxx := hxl x (List.mem_of_getElem? hx)
    have hzi : z[i]? = some (u, x) := by rw [hz, List.getElem?_zip_eq_some]; exact ⟨hu, hx⟩
    rw [drop_cons hzi, refFold] at hrL
    obtain ⟨v1, b1, q1, q2⟩ := getRes_gi (jGet x [97, 116])
    obtain ⟨v2, b2, q3, q4⟩ := getRes_gi (jGet x [116, 115])
    have hG1 : ∀ (H : AHeap) (K : AV → AHeap → Prop), K (.tup [.agg v1.cells, .v (.bool b1)]) H → ACall X 19 [.agg x.cells, .s [97, 116]] H K := fun H K hk => get_c x hxx _ H K (by rw [q1]; exact hk)
    have hG2 : ∀ (H : AHeap) (K : AV → AHeap → Prop), K (.tup [.agg v2.cells, .v (.bool b2)]) H → ACall X 19 [.agg x.cells, .s [116, 115]] H K := fun H K hk => get_c x hxx _ H K (by rw [q3]; exact hk)
    (apply AWp_skip; simp only [AThen, ABlock]; refine hK _ _ ?_; clear hK K; refine AWp_seq_k (fun K hK => ?_); apply AWp_block; refine AWp_seq_k (fun K hK => ?_); apply s_region; (iterate 5 (apply s_q; decide; rfl; (simp only [go_sem, g1L, hgx, J.cells_eq v1]; rfl))); apply s_call; decide; (simp only [go_sem, g1L, hgx, J.cells_eq v1]; rfl); (simp only [go_sem, g1L, hgx, J.cells_eq v1]; rfl); refine ACall.args_eq (bs := [.agg x.cells, .s [97, 116]]) ?_ ?_; (focus (rw [J.cells_eq x]; done)); apply hG1; (iterate 3 (apply s_q; decide; rfl; (simp only [go_sem, g1L, hgx, J.cells_eq v1]; rfl))); apply s_alloc; decide; exact zc_25; intro b hb; apply s_store; (simp only [go_sem, g1L, hgx, J.cells_eq v1]; rfl); (simp only [go_sem, g1L, hgx, J.cells_eq v1]; rfl); (simp only [go_sem, g1L, hgx, J.cells_eq v1]; rfl); apply s_q; decide; rfl; (simp only [go_sem, g1L, hgx, J.cells_eq v1]; rfl); apply s_nil; simp only [AThen, ABlock]; refine hK _ _ ?_; clear hK K; refine AWp_seq_k (fun K hK => ?_); apply s_region; apply s_q; decide; rfl; (simp only [go_sem, g1L, hgx, J.cells_eq v1]; rfl))
    obtain ⟨p6, hnewq⟩ : ∃ q, q = b := ⟨_, rfl⟩; have hp6 := hb; rw [← hnewq] at hp6 ⊢; clear hb hnewq; try clear he; clear b
    have h6p : p6 ≠ p := by rintro rfl; rw [hBL] at hp6; cases hp6
    generalize hgenq : AHeap.put p6 _ L = L2; obtain ⟨g6, hextq⟩ := gen_ex hgenq hp6; have g1L := hextq _ _ g1L; have hBL := hextq _ _ hBL; have hEL := Ext.trans hEL hextq; clear hextq hgenq
    ((iterate 4 (apply s_q; decide; rfl; (simp only [go_sem, g1L, hgx, J.cells_eq v2]; rfl))); apply s_call; decide; (simp only [go_sem, g1L, hgx, J.cells_eq v2]; rfl); (simp only [go_sem, g1L, hgx, J.cells_eq v2]; rfl); refine ACall.args_eq (bs := [.agg x.cells, .s [116, 115]]) ?_ ?_; (focus (rw [J.cells_eq x]; done)); apply hG2; (iterate 3 (apply s_q; decide; rfl; (simp only [go_sem, g1L, hgx, J.cells_eq v2]; rfl))); apply s_alloc; decide; exact zc_25; intro b hb; apply s_store; (simp only [go_sem, g1L, hgx, J.cells_eq v2]; rfl); (simp only [go_sem, g1L, hgx, J.cells_eq v2]; rfl); (simp only [go_sem, g1L, hgx, J.cells_eq v2]; rfl); apply s_q; decide; rfl; (simp only [go_sem, g1L, hgx, J.cells_eq v2]; rfl); apply s_nil; simp only [AThen, ABlock]; refine hK _ _ ?_; clear hK K; refine AWp_seq_k (fun K hK => ?_))
    obtain ⟨p8, hnewq⟩ : ∃ q, q = b := ⟨_, rfl⟩; have hp8 := hb; rw [← hnewq] at hp8 ⊢; clear hb hnewq; try clear he; clear b
    generalize hgenq : AHeap.put p8 _ L2 = L3; obtain ⟨g8, hextq⟩ := gen_ex hgenq hp8; have g1L := hextq _ _ g1L; have hBL := hextq _ _ hBL; have g6 := hextq _ _ g6; have hEL := Ext.trans hEL hextq; clear hextq hgenq
    have hm : (⟨u, v1.int, v2.int⟩ : Mark) = rmark (u, x) := by rw [rmark, q2, q4]
    have hq8 : u.length < 4294967281 := by omega
    obtain ⟨r1, r2, r3, hput⟩ : ∃ r1 r2 r3, put1 (rmark (u, x)) ms = (r1, r2, r3) := ⟨_, _, _, rfl⟩
    have hcode := put1_code (rmark (u, x)) ms
    have hnd3 := nod_put1 (m := rmark (u, x)) hnd
    have hown3 := own_put1 (m := rmark (u, x)) hown
    have hlen3 := keys_le (Q := fun _ => True) (m := rmark (u, x)) (ms := ms)
    have hrall := rput_all (rmark (u, x)) hnd hown
    rw [hput] at hcode hnd3 hown3 hlen3 hrall hrL
    simp only at hcode hnd3 hown3 hlen3 hrall hrL
    have hall : (allOf ms).length ≤ 100000 := by rw [allOf_len]; omega
    have hPut : ∀ (H : AHeap), RB H p tb (allOf ms) → ∀ (K : AV → AHeap → Prop), (∀ t', K (.tup [.v (.bool r1), .v (.int .i64 r2)]) (H.put p (.box 38 [.sl t' ((allOf r3).map Mark.cells)]))) →
        ACall X 20 [ptrTo p, .agg [.s u, .v (.int .i64 v1.int), .v (.int .i64 v2.int)]] H K := fun H hB K hk => by
      have hq : ([.s u, .v (.int .i64 v1.int), .v (.int .i64 v2.int)] : List AV) = (rmark (u, x)).cells := by rw [← hm]; rfl
      rw [hq]
      exact rput_c p tb (rmark (u, x)) (allOf ms) hall (by rw [← hm]; exact hq8) H hB K (by rw [hrall]; exact hk)
    have hgo : ∀ fr L4 t4, RB L4 p t4 (allOf r3) → L4 = L3.put p (.box 38 [.sl t4 ((allOf r3).map Mark.cells)]) → getAll [1, 4, 5, 11] fr = [ptrTo p1, ptrTo p, .v (.int .i64 ((i : Nat) : Int)), .v (.int .i64 r2)] → K fr L4 := fun fr L4 t4 hB4 hL4 hfr => by
      refine hK _ _ (AWp_cut _ hfr ?_)
      simp only [List.zip_cons_cons, List.zip_nil_right]
      clear hK
      have g1L4 : L4.get p1 = some (jbox c.kind c.int c.text (.sl false (c.keys.map strCells)) (.sl false (c.list.map J.cells))) := by rw [hL4]; exact get_other g1L h1p
      have hEL4 : Ext H L4 := by rw [hL4]; exact hEL.over hHp
      (refine AWp_seq_k (fun K hK => ?_); apply s_region; (iterate 2 (apply s_q; decide; rfl; (simp only [go_sem]; rfl))); apply s_nil; simp only [AThen, ABlock]; refine hK _ _ ?_; clear hK K)
      refine cond_split (by simp only [go_sem]; try rfl) (fun hf2 => ?_) (fun hf2 => ?_)
      · have ho : ¬ okMark (rmark (u, x)) = true := fun ho => by rw [if_pos ho] at hcode; rw [hcode] at hf2; simp at hf2
        rw [if_neg ho] at hrL
        rw [hrL] at hrp
        (refine AWp_seq_k (fun K hK => ?_); apply s_region; (iterate 2 (apply s_q; decide; rfl; (simp only [go_sem]; rfl))); apply s_nil; simp only [AThen, ABlock]; refine hK _ _ ?_; clear hK K; apply AWp_ret; simp only [AThen, ABlock]; apply end_ret; rfl; simp only [AFr.get, reduceIte, Nat.reduceEqDiff])
        exact ⟨H, hEL4, hN hrp⟩
      · have ho : okMark (rmark (u, x)) = true := by
          by_cases ho : okMark (rmark (u, x)) = true
          · exact ho
          · rw [if_neg ho] at hcode; rw [hcode] at hf2; simp at hf2
        rw [if_pos ho] at hrL
        (apply AWp_skip; simp only [AThen, ABlock]; refine hK _ _ ?_; clear hK K; apply s_region; (iterate 3 (apply s_q; decide; rfl; (simp only [go_sem]; rfl))); apply s_nil; simp only [AThen, ABlock])
        refine ⟨(i + 1, r3, t4, L4), by simp only; omega, ⟨by simp only; omega, g1L4, hB4, hEL4, hnd3, hown3, by simp only; omega, hrL⟩, ?_, by trivial⟩
        simp only [getAll, List.map_cons, List.map_nil, AFr.get, reduceIte, Nat.reduceEqDiff]
        rw [wrapS hlt (by omega)]; try rfl
    clear hK
    apply AWp_drawP [0, 1, 2, 3, 4, 5, 6, 7, 8, 9, 10] [11] [12, 13, 14, 15, 16] 0 (by exact mixed); kernel_rfl; (simp only [go_sem]; rfl); (simp only [go_sem]; rfl); (simp only [go_sem]; rfl)
    ((iterate 11 (apply e_q; decide; (simp only [go_sem, g1L, hgu, g6, g8]; rfl))); apply e_nil; apply t_call; decide; (simp only [go_sem, g1L, hgu, g6, g8]; rfl); (simp only [go_sem, g1L, hgu, g6, g8]; rfl); refine hPut _ hBL _ (fun t4 => ?_); refine ⟨(fun h => absurd h (by decide)), ?_⟩; apply t_nil; simp only [AThen, ABlock]; (iterate 5 (apply e_q; decide; (simp only [go_sem, g1L, hgu, g6, g8]; rfl))); apply e_nil)
    exact hgo _ _ t4 (AHeap.get_put_same _ _ _) rfl rfl
  · have hge : z.length ≤ i := by rw [hz, List.length_zip]; simp at hd; omega
    rw [List.drop_eq_nil_of_le hge, refFold] at hrL
    rw [hrL] at hrp
    have hrp : refParse c = if J.same (contentJ (allOf ms)) c.ord = true then some ms else none := hrp
    have hOrd : ∀ (H : AHeap) (K : AV → AHeap → Prop), K (.agg c.ord.cells) H → ACall X 11 [.agg c.cells] H K := fun H K hk => rOrder_c c hf (by rw [if_pos hg]; exact hk)
    have hCon : ∀ (K : AV → AHeap → Prop), K (.agg (contentJ (allOf ms)).cells) L → ACall X 21 [ptrTo p] L K := fun K hk => rcontent_c p tb (allOf ms) (by rw [allOf_len]; omega) L hBL K hk
    have hcl : (contentJ (allOf ms)).Len := by
      refine J.len_eq.2 ⟨by simp [contentJ, J.keys, allOf_len]; omega, by simp [contentJ, J.list, allOf_len]; omega, fun y hy => ?_⟩
      simp only [contentJ, J.list, List.mem_map] at hy
      obtain ⟨m, _, rfl⟩ := hy
      refine J.len_eq.2 ⟨by simp [markJ, J.keys], by simp [markJ, J.list], fun y hy => ?_⟩
      simp only [markJ, J.list, List.mem_cons, List.not_mem_nil, or_false] at hy
      rcases hy with rfl | rfl <;> exact J.len_eq.2 ⟨by simp [numJ, J.keys], by simp [numJ, J.list], fun y hy => by simp [numJ, J.list] at hy⟩
    have hSame : ∀ (H : AHeap) (K : AV → AHeap → Prop), K (.v (.bool (J.same (contentJ (allOf ms)) c.ord))) H → ACall X 9 [.agg (contentJ (allOf ms)).cells, .agg c.ord.cells] H K := fun H K hk => jsame_c _ _ _ H K (Nat.le_refl _) hcl hk
    (apply AWp_exit; simp only [AThen, ABlock, reduceIte, Nat.reduceEqDiff]; clear hK K; refine hK _ _ ?_; clear hK K; (iterate 2 (refine AWp_seq_k (fun K hK => ?_))))
    apply AWp_drawA [0, 1, 2, 3, 4, 5] [] 0 (by exact mixed); kernel_rfl; (simp only [go_sem]; rfl); (simp only [go_sem]; rfl)
    (apply e_q; decide; (simp only [go_sem, g1L]; rfl); apply e_call; decide; (simp only [go_sem, g1L]; rfl); (simp only [go_sem, g1L]; rfl); (apply hCon; exact ⟨rfl, rfl⟩); apply e_q; decide; (simp only [go_sem, g1L]; rfl); apply e_call; decide; (simp only [go_sem, g1L]; rfl); (simp only [go_sem, g1L]; rfl); (refine ACall.args_eq (bs := [.agg c.cells]) ?_ ?_; (focus (rw [J.cells_eq c]; done)); apply hOrd; exact ⟨rfl, rfl⟩); apply e_call; decide; (simp only [go_sem, g1L]; rfl); (simp only [go_sem, g1L]; rfl); (apply hSame; exact ⟨rfl, rfl⟩); apply e_q; decide; (simp only [go_sem, g1L]; rfl); apply e_nil; apply t_nil; simp only [AThen, ABlock]; refine hK _ _ ?_; clear hK K)
    refine cond_split (by simp only [go_sem]; try rfl) (fun he => ?_) (fun he => ?_)
    · rw [if_neg (by cases h : J.same (contentJ (allOf ms)) c.ord <;> simp [h] at he ⊢)] at hrp
      (refine AWp_seq_k (fun K hK => ?_); apply s_region; (iterate 2 (apply s_q; decide; rfl; (simp only [go_sem]; rfl))); apply s_nil; simp only [AThen, ABlock]; refine hK _ _ ?_; clear hK K; apply AWp_ret; simp only [AThen, ABlock]; apply end_ret; rfl; simp only [AFr.get, reduceIte, Nat.reduceEqDiff])
      exact ⟨H, hEL, hN hrp⟩
    · rw [if_pos (by cases h : J.same (contentJ (allOf ms)) c.ord <;> simp [h] at he ⊢)] at hrp
      (apply AWp_skip; simp only [AThen, ABlock]; refine hK _ _ ?_; clear hK K; refine AWp_seq_k (fun K hK => ?_); apply s_region; (iterate 3 (apply s_q; decide; rfl; (simp only [go_sem]; rfl))); apply s_nil; simp only [AThen, ABlock]; refine hK _ _ ?_; clear hK K; apply AWp_ret)
      exact ⟨L, Ext.refl _, hS ms hrp p tb L hHp hBL hEL⟩
end Go.Proofs.YtpdfgmedbphmkaaGreatDoor
