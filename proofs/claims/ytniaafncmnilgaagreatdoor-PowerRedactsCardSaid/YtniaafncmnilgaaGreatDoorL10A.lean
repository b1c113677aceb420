/-
  The law's own functions: few, users, awake. Contracts.
-/
import Derived.Test.YtniaafncmnilgaaGreatDoorPG
import Derived.Test.YtniaafncmnilgaaGreatDoorRP
set_option linter.unusedSimpArgs false
set_option linter.unusedVariables false
set_option maxRecDepth 100000
namespace Go.Proofs.YtniaafncmnilgaaGreatDoor
open Go Go.AL
attribute [local irreducible] AOps AWp SOps AE AT ACall AApp

theorem put0_c (k : List UInt8) (v : J) (H : AHeap) (K : AV → AHeap → Prop) (h : K (.agg [.v (.int .i64 5), .v (.int .i64 0), .s [], .sl false [[.s k]], .sl false [v.cells]]) H) :
    ACall X 37 [.agg [.v (.int .i64 5), .v (.int .i64 0), .s [], .sl true [], .sl true []], .s k, .agg v.cells] H K := by
  refine ACall.pre (bs := [.agg (J.mk 5 0 [] [] []).cells, .s k, .agg v.cells]) (K := H) ?_ (jput_c (J.mk 5 0 [] [] []) v k (by decide) _ _ h)
  have : AV.loosens [.agg [.v (.int .i64 5), .v (.int .i64 0), .s [], .sl true [], .sl true []], .s k, .agg v.cells] = [.agg (J.mk 5 0 [] [] []).cells, .s k, .agg v.cells] := by
    simp only [AV.loosens, AV.loosen, AV.loosenss, J.loosen, J.cells, List.map_nil, J.cellss]
  rw [← this]; exact Snap.loosen
def usersJ (name : List UInt8) (n : Int) : J := .mk 5 0 [] [[117, 115, 101, 114, 115]] [.mk 5 0 [] [name] [numJ n]]
theorem users_c (name : List UInt8) (n : Int) (H : AHeap) (Kc : AV → AHeap → Prop) (h : Kc (.agg (usersJ name n).cells) H) : ACall X 24 [.s name, .v (.int .i64 n)] H Kc := by
  refine ACall.drop ?_
  refine ACall_intro Tryz.func24 rfl (by kernel_rfl) (by rw [Tryz.ntmps24]; simp) ?_; rw [Tryz.ntmps24]; simp only [frame0, Nat.reduceAdd]
  refine AWp_seq_k (fun K hK => ?_); apply s_region
  apply s_alloc; decide; exact zc_json; intro r hr
  apply s_nil; simp only [AThen, ABlock]; refine hK _ _ ?_; clear hK K
  have g1 := AHeap.get_put_same r (jbox 0 0 [] (.sl true []) (.sl true [])) H
  have hE := Ext.fresh hr (o := jbox 0 0 [] (.sl true []) (.sl true []))
  generalize H.put r (jbox 0 0 [] (.sl true []) (.sl true [])) = M at g1 hE ⊢
  (refine AWp_seq_k (fun K hK => ?_); apply s_region; (iterate 3 (apply s_q; decide; rfl; (simp only [go_sem, g1, zc_json]; rfl))); apply s_call; decide; (simp only [go_sem, g1, zc_json]; rfl); (simp only [go_sem, g1, zc_json]; rfl); apply num_c; apply s_call; decide; (simp only [go_sem, g1, zc_json]; rfl); (simp only [go_sem, g1, zc_json]; rfl); apply put0_c; apply s_alloc; decide; exact zc_25; intro b hb; apply s_store; (simp only [go_sem, g1, zc_json]; rfl); (simp only [go_sem, g1, zc_json]; rfl); (simp only [go_sem, g1, zc_json]; rfl); apply s_nil; simp only [AThen, ABlock]; refine hK _ _ ?_; clear hK K; refine AWp_seq_k (fun K hK => ?_); apply s_region; (iterate 2 (apply s_q; decide; rfl; (simp only [go_sem, g1, zc_json]; rfl))))
  obtain ⟨p, hpe⟩ : ∃ p, p = b := ⟨_, rfl⟩
  have hp := hb
  rw [← hpe] at hp ⊢
  clear hb hpe b
  have g2 := get_fresh g1 hp (x := jbox 5 0 [] (.sl false [[.s name]]) (.sl false [(numJ n).cells]))
  have hE2 := hE.put hp (ob := jbox 5 0 [] (.sl false [[.s name]]) (.sl false [(numJ n).cells]))
  (apply s_call; decide; (simp only [go_sem, g2, zc_json]; rfl); (simp only [go_sem, g2, zc_json]; rfl); refine ACall.args_eq (bs := [.agg [.v (.int .i64 5), .v (.int .i64 0), .s [], .sl true [], .sl true []], .s [117, 115, 101, 114, 115], .agg (J.mk 5 0 [] [name] [numJ n]).cells]) (by rfl) ?_; apply put0_c; apply s_store; (simp only [go_sem, g2, zc_json]; rfl); (simp only [go_sem, g2, zc_json]; rfl); (simp only [go_sem, g2, zc_json]; rfl); apply s_nil; simp only [AThen, ABlock]; refine hK _ _ ?_; clear hK K; apply AWp_ret)
  try simp only [AThen, ABlock]
  refine end_ret (av := .agg (usersJ name n).cells) (by show resAV X.P _ _ [.cell 4 25] = _; simp only [go_sem]; try rfl) ⟨_, hE2.over hr, h⟩
/-- what awake's content tells -/
def lvA : Lv := ⟨50, 50, 0, 50, 50, 0, 0, [([64, 97, 58, 115], 50)], []⟩
theorem parse_users : lvParse (usersJ [64, 97, 58, 115] 50) = some lvA := by kernel_rfl
theorem fit_users : J.Fit (usersJ [64, 97, 58, 115] 50) := by simp [usersJ, numJ, J.Fit, J.Fits]
abbrev lvcells (ban kick inv red st ev us : Int) (u t : AV) : List AV := [.v (.int .i64 ban), .v (.int .i64 kick), .v (.int .i64 inv), .v (.int .i64 red), .v (.int .i64 st), .v (.int .i64 ev), .v (.int .i64 us), u, t]
theorem parseA_c (H : AHeap) (K : AV → AHeap → Prop) (h : K (.tup [.agg (lvcells 50 50 0 50 50 0 0 (.sl false [[.s [64, 97, 58, 115], .v (.int .i64 50)]]) (.sl false [])), .v (.int .i64 0)]) H) : ACall X 6 [.agg (usersJ [64, 97, 58, 115] 50).cells] H K :=
  parse_c _ fit_users ⟨by simp [usersJ, J.keys], by simp [usersJ, numJ, J.keys, J.list]⟩ H K (by rw [parse_users]; exact h)
theorem snap_ptr (b sz : Nat) (es : List (List AV)) (q : Nat) : AV.snap b sz es (ptrTo q) = ptrTo q := rfl
theorem lvA_len : lvA.Len := by simp [lvA, Lv.Len]
def lvB (n : Int) : Lv := ⟨50, 50, 0, 50, 50, 0, 0, [([64, 98, 58, 115], n), ([64, 97, 58, 115], 50)], []⟩
theorem lvB_len (n : Int) : (lvB n).Len := by simp [lvB, Lv.Len]
theorem userA1 (H : AHeap) (K : AV → AHeap → Prop) (h : K (.v (.int .i64 50)) H) : ACall X 25 [.agg (lvcells 50 50 0 50 50 0 0 (.sl false [[.s [64, 97, 58, 115], .v (.int .i64 50)]]) (.sl false [])), .s [64, 97, 58, 115]] H K := puser_c lvA lvA_len _ H K (by
      have e : lvA.user [64, 97, 58, 115] = 50 := by kernel_rfl
      rw [e]; exact h)
theorem userA2 (H : AHeap) (K : AV → AHeap → Prop) (h : K (.v (.int .i64 0)) H) : ACall X 25 [.agg (lvcells 50 50 0 50 50 0 0 (.sl false [[.s [64, 97, 58, 115], .v (.int .i64 50)]]) (.sl false [])), .s [64, 98, 58, 115]] H K := puser_c lvA lvA_len _ H K (by
      have e : lvA.user [64, 98, 58, 115] = 0 := by kernel_rfl
      rw [e]; exact h)
theorem mayA1 (H : AHeap) (K : AV → AHeap → Prop) (h : K (.v (.bool false)) H) : ACall X 26 [.agg (lvcells 50 50 0 50 50 0 0 (.sl false [[.s [64, 97, 58, 115], .v (.int .i64 50)]]) (.sl false [])), .agg (lvcells 50 50 0 50 50 0 0 (.sl false [[.s [64, 98, 58, 115], .v (.int .i64 51)], [.s [64, 97, 58, 115], .v (.int .i64 50)]]) (.sl false [])), .s [64, 97, 58, 115]] H K := may_c lvA (lvB 51) lvA_len (lvB_len _) _ H K (by
      have e : lvMay lvA (lvB 51) [64, 97, 58, 115] = false := by kernel_rfl
      rw [e]; exact h)
theorem mayA2 (H : AHeap) (K : AV → AHeap → Prop) (h : K (.v (.bool true)) H) : ACall X 26 [.agg (lvcells 50 50 0 50 50 0 0 (.sl false [[.s [64, 97, 58, 115], .v (.int .i64 50)]]) (.sl false [])), .agg (lvcells 50 50 0 50 50 0 0 (.sl false [[.s [64, 98, 58, 115], .v (.int .i64 50)], [.s [64, 97, 58, 115], .v (.int .i64 50)]]) (.sl false [])), .s [64, 97, 58, 115]] H K := may_c lvA (lvB 50) lvA_len (lvB_len _) _ H K (by
      have e : lvMay lvA (lvB 50) [64, 97, 58, 115] = true := by kernel_rfl
      rw [e]; exact h)
set_option maxHeartbeats 2000000 in
theorem awake_c (H : AHeap) (Kc : AV → AHeap → Prop) (h : Kc (.v (.bool true)) H) : ACall X 9 [] H Kc := by
  refine ACall.drop ?_
  refine ACall_intro Tryz.func9 rfl (by kernel_rfl) (by rw [Tryz.ntmps9]; simp) ?_; rw [Tryz.ntmps9]; simp only [frame0, Nat.reduceAdd]
  (refine AWp_seq_k (fun K hK => ?_); apply s_region; apply s_q; decide; rfl; (simp only [go_sem]; rfl); apply s_nil; simp only [AThen, ABlock]; refine hK _ _ ?_; clear hK K; refine AWp_seq_k (fun K hK => ?_); apply s_region; apply s_call; decide; (simp only [go_sem]; rfl); (simp only [go_sem]; rfl); apply users_c; apply s_call; decide; (simp only [go_sem]; rfl); (simp only [go_sem]; rfl); apply parseA_c; (iterate 3 (apply s_q; decide; rfl; (simp only [go_sem]; rfl))); apply s_alloc; decide; exact zc_29; intro b hb; apply s_store; (simp only [go_sem]; rfl); (simp only [go_sem]; rfl); (simp only [go_sem]; rfl); apply s_q; decide; rfl; (simp only [go_sem]; rfl); apply s_nil; simp only [AThen, ABlock]; refine hK _ _ ?_; clear hK K; refine AWp_seq_k (fun K hK => ?_); apply s_region; apply s_q; decide; rfl; (simp only [go_sem]; rfl); apply s_alloc; decide; exact zc_29; intro b hb; apply s_store; (simp only [go_sem]; rfl); (simp only [go_sem]; rfl); (simp only [go_sem]; rfl); apply s_nil; simp only [AThen, ABlock]; refine hK _ _ ?_; clear hK K; refine AWp_seq_k (fun K hK => ?_); apply s_region; apply s_q; decide; rfl; (simp only [go_sem]; rfl); apply s_lit; decide; exact el_27; (simp only [go_sem]; rfl); (simp only [go_sem]; rfl); decide; apply s_q; decide; rfl; (simp only [go_sem]; rfl))
  rename_i p1 hp1
  obtain ⟨p3, hpe⟩ : ∃ q, q = b := ⟨_, rfl⟩
  have hp3 := hb
  rw [← hpe] at hp3 ⊢
  clear hb hpe b
  have g1 := get_fresh (AHeap.get_put_same p1 (.box 29 (lvcells 50 50 0 50 50 0 0 (.sl false [[.s [64, 97, 58, 115], .v (.int .i64 50)]]) (.sl false []))) H) hp3 (x := (.box 29 (lvcells 50 50 0 50 50 0 0 (.sl false [[.s [64, 97, 58, 115], .v (.int .i64 50)]]) (.sl false []))))
  have g3 := AHeap.get_put_same p3 (.box 29 (lvcells 50 50 0 50 50 0 0 (.sl false [[.s [64, 97, 58, 115], .v (.int .i64 50)]]) (.sl false []))) (H.put p1 (.box 29 (lvcells 50 50 0 50 50 0 0 (.sl false [[.s [64, 97, 58, 115], .v (.int .i64 50)]]) (.sl false []))))
  have hE := (Ext.fresh hp1 (o := (.box 29 (lvcells 50 50 0 50 50 0 0 (.sl false [[.s [64, 97, 58, 115], .v (.int .i64 50)]]) (.sl false []))))).put hp3 (ob := (.box 29 (lvcells 50 50 0 50 50 0 0 (.sl false [[.s [64, 97, 58, 115], .v (.int .i64 50)]]) (.sl false []))))
  have h13 : p1 ≠ p3 := get_ne_fresh (AHeap.get_put_same p1 (.box 29 (lvcells 50 50 0 50 50 0 0 (.sl false [[.s [64, 97, 58, 115], .v (.int .i64 50)]]) (.sl false []))) H) hp3
  have hH3 : H.get p3 = none := none_of_ext (Ext.fresh hp1 (o := (.box 29 (lvcells 50 50 0 50 50 0 0 (.sl false [[.s [64, 97, 58, 115], .v (.int .i64 50)]]) (.sl false []))))) hp3
  generalize (H.put p1 (.box 29 (lvcells 50 50 0 50 50 0 0 (.sl false [[.s [64, 97, 58, 115], .v (.int .i64 50)]]) (.sl false [])))).put p3 (.box 29 (lvcells 50 50 0 50 50 0 0 (.sl false [[.s [64, 97, 58, 115], .v (.int .i64 50)]]) (.sl false []))) = M at g1 g3 hE ⊢
  (apply s_q; decide; rfl; (simp only [go_sem, g1, g3]; rfl); apply s_append; decide; (simp only [go_sem, g1, g3]; rfl); (simp only [go_sem, g1, g3]; rfl); refine AApp_tight el_27 (by simp) (src_sl tk_27 (by intro c hc; simp at hc; subst hc; exact ⟨rfl, rfl⟩)) (by decide) (by decide) (fun h => by cases h) (fun _ r5 hr5 => ?_); apply s_q; decide; rfl; (simp only [go_sem, g1, g3]; rfl))
  have k1 := get_fresh g1 hr5 (x := (.row 58 2 false ([[.s [64, 98, 58, 115], .v (.int .i64 51)]] ++ [[.s [64, 97, 58, 115], .v (.int .i64 50)]])))
  have k3 := get_fresh g3 hr5 (x := (.row 58 2 false ([[.s [64, 98, 58, 115], .v (.int .i64 51)]] ++ [[.s [64, 97, 58, 115], .v (.int .i64 50)]])))
  have k5 := AHeap.get_put_same r5 (.row 58 2 false ([[.s [64, 98, 58, 115], .v (.int .i64 51)]] ++ [[.s [64, 97, 58, 115], .v (.int .i64 50)]])) M
  have hEr := hE.put hr5 (ob := (.row 58 2 false ([[.s [64, 98, 58, 115], .v (.int .i64 51)]] ++ [[.s [64, 97, 58, 115], .v (.int .i64 50)]])))
  have h35 : p3 ≠ r5 := get_ne_fresh g3 hr5
  generalize M.put r5 (.row 58 2 false ([[.s [64, 98, 58, 115], .v (.int .i64 51)]] ++ [[.s [64, 97, 58, 115], .v (.int .i64 50)]])) = M1 at k1 k3 k5 hEr ⊢
  (apply s_store; (simp only [go_sem, k3]; rfl); (simp only [go_sem, k3]; rfl); (simp only [go_sem, k3]; rfl))
  apply s_nil; simp only [AThen, ABlock]; refine hK _ _ ?_; clear hK K
  have q1 := get_other (x := (.box 29 (lvcells 50 50 0 50 50 0 0 (.row r5 2 2) (.sl false [])))) k1 h13
  have q3 := AHeap.get_put_same p3 (.box 29 (lvcells 50 50 0 50 50 0 0 (.row r5 2 2) (.sl false []))) M1
  have q5 := get_other (x := (.box 29 (lvcells 50 50 0 50 50 0 0 (.row r5 2 2) (.sl false [])))) k5 h35.symm
  have hEq := hEr.over (o := (.box 29 (lvcells 50 50 0 50 50 0 0 (.row r5 2 2) (.sl false [])))) hH3
  generalize M1.put p3 (.box 29 (lvcells 50 50 0 50 50 0 0 (.row r5 2 2) (.sl false []))) = M2 at q1 q3 q5 hEq ⊢
  refine AWp_cut [1, 2, 3] (vs := [ptrTo p1, .v (.int .i64 0), ptrTo p3]) rfl ?_
  simp only [List.zip_cons_cons, List.zip_nil_right]
  refine AWp.snapBox q5 q3 ?_
  simp only [AFr.snap, snap_ptr, AV.snaps, AV.snap, AV.snapss, if_true, Nat.le_refl, and_self, List.take_length]
  generalize hM3 : AHeap.put p3 _ (AHeap.put r5 _ M2) = M3
  have hr5H : H.get r5 = none := none_of_ext hE hr5
  have h15 : p1 ≠ r5 := get_ne_fresh g1 hr5
  have x3 : M3.get p3 = some (.box 29 (lvcells 50 50 0 50 50 0 0 (.sl false [[.s [64, 98, 58, 115], .v (.int .i64 51)], [.s [64, 97, 58, 115], .v (.int .i64 50)]]) (.sl false []))) := by rw [← hM3]; exact AHeap.get_put_same _ _ _
  have x1 : M3.get p1 = some (.box 29 (lvcells 50 50 0 50 50 0 0 (.sl false [[.s [64, 97, 58, 115], .v (.int .i64 50)]]) (.sl false []))) := by rw [← hM3]; exact get_other (get_other q1 h15) h13
  have xE : Ext H M3 := by rw [← hM3]; exact (hEq.over hr5H).over hH3
  clear hM3 q1 q3 q5 hEq g1 g3 hE
  (refine AWp_seq_k (fun K hK => ?_); apply s_region; apply s_q; decide; rfl; (simp only [go_sem, x1]; rfl); apply s_alloc; decide; exact zc_29; intro b hb; apply s_store; (simp only [go_sem, x1]; rfl); (simp only [go_sem, x1]; rfl); (simp only [go_sem, x1]; rfl); apply s_nil; simp only [AThen, ABlock]; refine hK _ _ ?_; clear hK K; refine AWp_seq_k (fun K hK => ?_); apply s_region; apply s_q; decide; rfl; (simp only [go_sem, x1]; rfl); apply s_lit; decide; exact el_27; (simp only [go_sem, x1]; rfl); (simp only [go_sem, x1]; rfl); decide; apply s_q; decide; rfl; (simp only [go_sem, x1]; rfl))
  obtain ⟨p4, hpe⟩ : ∃ q, q = b := ⟨_, rfl⟩
  have hp4 := hb
  rw [← hpe] at hp4 ⊢
  clear hb hpe b
  have g1 := get_fresh x1 hp4 (x := (.box 29 (lvcells 50 50 0 50 50 0 0 (.sl false [[.s [64, 97, 58, 115], .v (.int .i64 50)]]) (.sl false []))))
  have g3 := get_fresh x3 hp4 (x := (.box 29 (lvcells 50 50 0 50 50 0 0 (.sl false [[.s [64, 97, 58, 115], .v (.int .i64 50)]]) (.sl false []))))
  have g4 := AHeap.get_put_same p4 (.box 29 (lvcells 50 50 0 50 50 0 0 (.sl false [[.s [64, 97, 58, 115], .v (.int .i64 50)]]) (.sl false []))) M3
  have hE := xE.put hp4 (ob := (.box 29 (lvcells 50 50 0 50 50 0 0 (.sl false [[.s [64, 97, 58, 115], .v (.int .i64 50)]]) (.sl false []))))
  have h14 : p1 ≠ p4 := get_ne_fresh x1 hp4
  have h34 : p3 ≠ p4 := get_ne_fresh x3 hp4
  have hH4 : H.get p4 = none := none_of_ext xE hp4
  generalize M3.put p4 (.box 29 (lvcells 50 50 0 50 50 0 0 (.sl false [[.s [64, 97, 58, 115], .v (.int .i64 50)]]) (.sl false []))) = M4 at g1 g3 g4 hE ⊢
  clear x1 x3 xE
  (apply s_q; decide; rfl; (simp only [go_sem, g1, g4]; rfl); apply s_append; decide; (simp only [go_sem, g1, g4]; rfl); (simp only [go_sem, g1, g4]; rfl); refine AApp_tight el_27 (by simp) (src_sl tk_27 (by intro c hc; simp at hc; subst hc; exact ⟨rfl, rfl⟩)) (by decide) (by decide) (fun h => by cases h) (fun _ r6 hr6 => ?_); apply s_q; decide; rfl; (simp only [go_sem, g1, g4]; rfl))
  have k1 := get_fresh g1 hr6 (x := (.row 58 2 false ([[.s [64, 98, 58, 115], .v (.int .i64 50)]] ++ [[.s [64, 97, 58, 115], .v (.int .i64 50)]])))
  have k3 := get_fresh g3 hr6 (x := (.row 58 2 false ([[.s [64, 98, 58, 115], .v (.int .i64 50)]] ++ [[.s [64, 97, 58, 115], .v (.int .i64 50)]])))
  have k4 := get_fresh g4 hr6 (x := (.row 58 2 false ([[.s [64, 98, 58, 115], .v (.int .i64 50)]] ++ [[.s [64, 97, 58, 115], .v (.int .i64 50)]])))
  have k5 := AHeap.get_put_same r6 (.row 58 2 false ([[.s [64, 98, 58, 115], .v (.int .i64 50)]] ++ [[.s [64, 97, 58, 115], .v (.int .i64 50)]])) M4
  have hEr := hE.put hr6 (ob := (.row 58 2 false ([[.s [64, 98, 58, 115], .v (.int .i64 50)]] ++ [[.s [64, 97, 58, 115], .v (.int .i64 50)]])))
  have h46 : p4 ≠ r6 := get_ne_fresh g4 hr6
  have h36 : p3 ≠ r6 := get_ne_fresh g3 hr6
  have h16 : p1 ≠ r6 := get_ne_fresh g1 hr6
  have hr6H : H.get r6 = none := none_of_ext hE hr6
  generalize M4.put r6 (.row 58 2 false ([[.s [64, 98, 58, 115], .v (.int .i64 50)]] ++ [[.s [64, 97, 58, 115], .v (.int .i64 50)]])) = M5 at k1 k3 k4 k5 hEr ⊢
  (apply s_store; (simp only [go_sem, k4]; rfl); (simp only [go_sem, k4]; rfl); (simp only [go_sem, k4]; rfl))
  apply s_nil; simp only [AThen, ABlock]; refine hK _ _ ?_; clear hK K
  have q1 := get_other (x := (.box 29 (lvcells 50 50 0 50 50 0 0 (.row r6 2 2) (.sl false [])))) k1 h14
  have q3 := get_other (x := (.box 29 (lvcells 50 50 0 50 50 0 0 (.row r6 2 2) (.sl false [])))) k3 h34
  have q4 := AHeap.get_put_same p4 (.box 29 (lvcells 50 50 0 50 50 0 0 (.row r6 2 2) (.sl false []))) M5
  have q5 := get_other (x := (.box 29 (lvcells 50 50 0 50 50 0 0 (.row r6 2 2) (.sl false [])))) k5 h46.symm
  have hEq := hEr.over (o := (.box 29 (lvcells 50 50 0 50 50 0 0 (.row r6 2 2) (.sl false [])))) hH4
  generalize M5.put p4 (.box 29 (lvcells 50 50 0 50 50 0 0 (.row r6 2 2) (.sl false []))) = M6 at q1 q3 q4 q5 hEq ⊢
  refine AWp_cut [1, 2, 3, 4] (vs := [ptrTo p1, .v (.int .i64 0), ptrTo p3, ptrTo p4]) rfl ?_
  simp only [List.zip_cons_cons, List.zip_nil_right]
  refine AWp.snapBox q5 q4 ?_
  simp only [AFr.snap, snap_ptr, AV.snaps, AV.snap, AV.snapss, if_true, Nat.le_refl, and_self, List.take_length]
  generalize hM7 : AHeap.put p4 _ (AHeap.put r6 _ M6) = M7
  have x4 : M7.get p4 = some (.box 29 (lvcells 50 50 0 50 50 0 0 (.sl false [[.s [64, 98, 58, 115], .v (.int .i64 50)], [.s [64, 97, 58, 115], .v (.int .i64 50)]]) (.sl false []))) := by rw [← hM7]; exact AHeap.get_put_same _ _ _
  have x1 : M7.get p1 = some (.box 29 (lvcells 50 50 0 50 50 0 0 (.sl false [[.s [64, 97, 58, 115], .v (.int .i64 50)]]) (.sl false []))) := by rw [← hM7]; exact get_other (get_other q1 h16) h14
  have x3 : M7.get p3 = some (.box 29 (lvcells 50 50 0 50 50 0 0 (.sl false [[.s [64, 98, 58, 115], .v (.int .i64 51)], [.s [64, 97, 58, 115], .v (.int .i64 50)]]) (.sl false []))) := by rw [← hM7]; exact get_other (get_other q3 h36) h34
  have xE : Ext H M7 := by rw [← hM7]; exact (hEq.over hr6H).over hH4
  clear hM7
  (refine AWp_seq_k (fun K hK => ?_); apply s_region; (iterate 3 (apply s_q; decide; rfl; (simp only [go_sem, x1, x3, x4]; rfl))); apply s_spec; decide; rfl; rfl; (simp only [go_sem, x1, x3, x4]; rfl); (simp only [go_sem, x1, x3, x4]; rfl); (simp only [go_sem, x1, x3, x4]; rfl); (simp only [go_sem, x1, x3, x4]; rfl); trivial; apply s_gpure; decide; (simp only [go_sem, x1, x3, x4]; rfl); (simp only [go_sem, x1, x3, x4]; rfl); (simp only [go_sem, x1, x3, x4]; rfl); trivial; (simp only [go_sem, x1, x3, x4]; rfl); (simp only [go_sem, x1, x3, x4]; rfl); (apply userA1; exact ⟨rfl, rfl⟩); apply s_spec; decide; rfl; rfl; (simp only [go_sem, x1, x3, x4]; rfl); (simp only [go_sem, x1, x3, x4]; rfl); (simp only [go_sem, x1, x3, x4]; rfl); (simp only [go_sem, x1, x3, x4]; rfl); trivial; apply s_pick; decide; (simp only [go_sem, x1, x3, x4]; rfl); (simp only [go_sem, x1, x3, x4]; rfl); (simp only [go_sem, x1, x3, x4]; rfl); (simp only [go_sem, x1, x3, x4]; rfl); (simp only [go_sem, x1, x3, x4]; rfl); (simp only [go_sem, x1, x3, x4]; rfl); trivial; trivial; trivial; apply s_q; decide; rfl; (simp only [go_sem, x1, x3, x4]; rfl); apply s_spec; decide; rfl; rfl; (simp only [go_sem, x1, x3, x4]; rfl); (simp only [go_sem, x1, x3, x4]; rfl); (simp only [go_sem, x1, x3, x4]; rfl); (simp only [go_sem, x1, x3, x4]; rfl); trivial; apply s_gpure; decide; (simp only [go_sem, x1, x3, x4]; rfl); (simp only [go_sem, x1, x3, x4]; rfl); (simp only [go_sem, x1, x3, x4]; rfl); trivial; (simp only [go_sem, x1, x3, x4]; rfl); (simp only [go_sem, x1, x3, x4]; rfl); (apply userA2; exact ⟨rfl, rfl⟩); apply s_spec; decide; rfl; rfl; (simp only [go_sem, x1, x3, x4]; rfl); (simp only [go_sem, x1, x3, x4]; rfl); (simp only [go_sem, x1, x3, x4]; rfl); (simp only [go_sem, x1, x3, x4]; rfl); trivial; apply s_pick; decide; (simp only [go_sem, x1, x3, x4]; rfl); (simp only [go_sem, x1, x3, x4]; rfl); (simp only [go_sem, x1, x3, x4]; rfl); (simp only [go_sem, x1, x3, x4]; rfl); (simp only [go_sem, x1, x3, x4]; rfl); (simp only [go_sem, x1, x3, x4]; rfl); trivial; trivial; trivial; apply s_q; decide; rfl; (simp only [go_sem, x1, x3, x4]; rfl); (iterate 2 (apply s_spec; decide; rfl; rfl; (simp only [go_sem, x1, x3, x4]; rfl); (simp only [go_sem, x1, x3, x4]; rfl); (simp only [go_sem, x1, x3, x4]; rfl); (simp only [go_sem, x1, x3, x4]; rfl); trivial)); apply s_gpure; decide; (simp only [go_sem, x1, x3, x4]; rfl); (simp only [go_sem, x1, x3, x4]; rfl); (simp only [go_sem, x1, x3, x4]; rfl); trivial; (simp only [go_sem, x1, x3, x4]; rfl); (simp only [go_sem, x1, x3, x4]; rfl); (apply mayA1; exact ⟨rfl, rfl⟩); apply s_spec; decide; rfl; rfl; (simp only [go_sem, x1, x3, x4]; rfl); (simp only [go_sem, x1, x3, x4]; rfl); (simp only [go_sem, x1, x3, x4]; rfl); (simp only [go_sem, x1, x3, x4]; rfl); trivial; apply s_pick; decide; (simp only [go_sem, x1, x3, x4]; rfl); (simp only [go_sem, x1, x3, x4]; rfl); (simp only [go_sem, x1, x3, x4]; rfl); (simp only [go_sem, x1, x3, x4]; rfl); (simp only [go_sem, x1, x3, x4]; rfl); (simp only [go_sem, x1, x3, x4]; rfl); trivial; trivial; trivial; apply s_q; decide; rfl; (simp only [go_sem, x1, x3, x4]; rfl); (iterate 2 (apply s_spec; decide; rfl; rfl; (simp only [go_sem, x1, x3, x4]; rfl); (simp only [go_sem, x1, x3, x4]; rfl); (simp only [go_sem, x1, x3, x4]; rfl); (simp only [go_sem, x1, x3, x4]; rfl); trivial)); apply s_gpure; decide; (simp only [go_sem, x1, x3, x4]; rfl); (simp only [go_sem, x1, x3, x4]; rfl); (simp only [go_sem, x1, x3, x4]; rfl); trivial; (simp only [go_sem, x1, x3, x4]; rfl); (simp only [go_sem, x1, x3, x4]; rfl); (apply mayA2; exact ⟨rfl, rfl⟩); apply s_pick; decide; (simp only [go_sem, x1, x3, x4]; rfl); (simp only [go_sem, x1, x3, x4]; rfl); (simp only [go_sem, x1, x3, x4]; rfl); (simp only [go_sem, x1, x3, x4]; rfl); (simp only [go_sem, x1, x3, x4]; rfl); (simp only [go_sem, x1, x3, x4]; rfl); trivial; trivial; trivial; apply s_q; decide; rfl; (simp only [go_sem, x1, x3, x4]; rfl); apply s_nil; simp only [AThen, ABlock]; refine hK _ _ ?_; clear hK K; apply AWp_ret)
  refine end_ret (av := .v (.bool true)) (by show resAV X.P _ _ [.tmp 0] = _; simp [go_sem]; try rfl) ⟨H, xE, h⟩
def shortB (l : List Nm) : Bool := decide (l.length ≤ 60) && l.all fun x => decide (x.1.length ≤ 200)
def fewB (l : Lv) : Bool := if shortB l.byUser = true then shortB l.byType else false
def Lv.Wide (l : Lv) : Prop := l.byUser.length ≤ 9223372036854775807 ∧ l.byType.length ≤ 9223372036854775807
theorem few_len {l : Lv} (h : fewB l = true) : l.Len := by
  have h1 : shortB l.byUser = true := by
    rw [fewB] at h; split at h
    · assumption
    · cases h
  rw [fewB, if_pos h1] at h
  simp only [shortB, Bool.and_eq_true, decide_eq_true_eq] at h h1
  exact ⟨by omega, by omega⟩
theorem lvMay_same (l : Lv) (s : List UInt8) : lvMay l l s = true := by
  have e1 : (l.nums.zip l.nums).any (fun p => numBad (l.user s) p.1 p.2) = false := by simp [Lv.nums, numBad]
  have e2 : ∀ u : List Nm, ∀ k, differs u u k = false := fun u k => by simp [differs]
  rw [lvMay, e1]
  simp [e2]
end Go.Proofs.YtniaafncmnilgaaGreatDoor
