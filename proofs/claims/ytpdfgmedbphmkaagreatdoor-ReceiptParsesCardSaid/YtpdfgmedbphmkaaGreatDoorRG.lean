/-
  The document's Get. Contract.
-/
import Derived.Test.YtpdfgmedbphmkaaGreatDoorCH
set_option linter.unusedSimpArgs false
set_option linter.unusedVariables false
set_option maxRecDepth 100000
namespace Go.Proofs.YtpdfgmedbphmkaaGreatDoor
open Go Go.AL
attribute [local irreducible] AOps AWp SOps AE AT ACall AApp

/-- the first value under a key -/
def jGet (j : J) (key : List UInt8) : Option J := if j.kind = 5 then ((j.keys.zip j.list).find? fun p => decide (p.1 = key)).map (·.2) else none
def getRes (o : Option J) : AV := match o with | some x => .tup [.agg x.cells, .v (.bool true)] | none => .tup [.agg (J.mk 0 0 [] [] []).cells, .v (.bool false)]
set_option maxHeartbeats 2000000 in
theorem get_c (j : J) (hl : j.keys.length ≤ 9223372036854775807 ∧ j.list.length ≤ 9223372036854775807) (key : List UInt8) (H : AHeap) (Kc : AV → AHeap → Prop) (h : Kc (getRes (jGet j key)) H) : ACall X 19 [.agg j.cells, .s key] H Kc := by
  refine ACall.post ?_
  rw [J.cells_eq]
  refine ACall_intro Tryz.func19 rfl (by kernel_rfl) (by rw [Tryz.ntmps19]; simp) ?_; rw [Tryz.ntmps19]; simp only [frame0, Nat.reduceAdd]
  refine AWp_seq_k (fun K hK => ?_); apply s_region
  apply s_box; decide; exact (by simp only [go_sem]; try rfl); exact (by simp only [go_sem]; try rfl); intro p hp
  apply s_alloc; decide; exact zc_json; intro r hr
  (apply s_q; decide; rfl; (simp only [go_sem]; rfl); apply s_nil; simp only [AThen, ABlock]; refine hK _ _ ?_; clear hK K; (iterate 2 (refine AWp_seq_k (fun K hK => ?_))); apply s_region; apply s_q; decide; rfl; (simp only [go_sem]; rfl))
  have g1 := get_fresh (AHeap.get_put_same p (jbox j.kind j.int j.text (.sl false (j.keys.map strCells)) (.sl false (j.list.map J.cells))) H) hr (x := jbox 0 0 [] (.sl true []) (.sl true []))
  have g2 := AHeap.get_put_same r (jbox 0 0 [] (.sl true []) (.sl true [])) (H.put p (jbox j.kind j.int j.text (.sl false (j.keys.map strCells)) (.sl false (j.list.map J.cells))))
  have hE := (Ext.fresh hp (o := jbox j.kind j.int j.text (.sl false (j.keys.map strCells)) (.sl false (j.list.map J.cells)))).put hr (ob := jbox 0 0 [] (.sl true []) (.sl true []))
  have hHr : H.get r = none := none_fresh hr
  generalize (H.put p (jbox j.kind j.int j.text (.sl false (j.keys.map strCells)) (.sl false (j.list.map J.cells)))).put r (jbox 0 0 [] (.sl true []) (.sl true [])) = M at g1 g2 hE ⊢
  rw [jGet] at h
  ((iterate 2 (apply s_q; decide; rfl; (simp only [go_sem, g1]; rfl))); apply s_nil; simp only [AThen, ABlock]; refine hK _ _ ?_; clear hK K)
  refine cond_split (by simp only [go_sem]; try rfl) (fun hc => ?_) (fun hc => ?_)
  · have h5 : ¬ j.kind = 5 := by simpa using hc
    rw [if_neg h5] at h
    (refine AWp_seq_k (fun K hK => ?_); apply s_region; apply s_q; decide; rfl; (simp only [go_sem, zc_json, g2]; rfl); apply s_store; (simp only [go_sem, zc_json, g2]; rfl); (simp only [go_sem, zc_json, g2]; rfl); (simp only [go_sem, zc_json, g2]; rfl); apply s_q; decide; rfl; (simp only [go_sem, zc_json, g2]; rfl); apply s_nil; simp only [AThen, ABlock]; refine hK _ _ ?_; clear hK K; apply AWp_ret)
    try simp only [AThen, ABlock]
    refine end_ret (av := .tup [.agg [.v (.int .i64 0), .v (.int .i64 0), .s [], .sl true [], .sl true []], .v (.bool false)]) (by show resAV X.P _ _ [.cell 4 25, .tmp 5] = _; simp only [go_sem]; try rfl) ⟨_, _, Snap.trans Snap.loosen (Snap.drop (hE.over hHr)), h⟩
  have h5 : j.kind = 5 := by simpa using hc
  rw [if_pos h5] at h
  (apply AWp_skip; simp only [AThen, ABlock]; refine hK _ _ ?_; clear hK K; (iterate 2 (refine AWp_seq_k (fun K hK => ?_))); apply s_region; apply s_q; decide; rfl; (simp only [go_sem]; rfl); apply s_nil; simp only [AThen, ABlock]; refine hK _ _ ?_; clear hK K; apply AWp_block)
  have hzl : (j.keys.zip j.list).length = min j.keys.length j.list.length := List.length_zip
  refine AWp_loop_s (σ := Nat) [1, 2, 4, 5, 6] (fun i => [.s key, ptrTo p, ptrTo r, .v (.bool false), .v (.int .i64 i)]) (fun _ => M) (fun i => (j.keys.zip j.list).length - i) (fun i => i ≤ (j.keys.zip j.list).length ∧ ∀ x ∈ (j.keys.zip j.list).take i, decide (x.1 = key) = false) 0 ⟨Nat.zero_le _, by simp⟩ rfl rfl (fun i hi => ?_)
  obtain ⟨hi, hno⟩ := hi
  simp only [List.zip_cons_cons, List.zip_nil_right]
  ((iterate 2 (refine AWp_seq_k (fun K hK => ?_))); apply s_region; (iterate 6 (apply s_q; decide; rfl; (simp only [go_sem, g1]; rfl))); (iterate 2 (apply s_spec; decide; rfl; rfl; (simp only [go_sem, g1]; rfl); (simp only [go_sem, g1]; rfl); (simp only [go_sem, g1]; rfl); (simp only [go_sem, g1]; rfl); trivial)); (iterate 3 (apply s_spec; decide; rfl; rfl; (simp only [go_sem, g1]; rfl); (simp only [go_sem, g1]; rfl); (simp only [go_sem, g1]; rfl); (simp only [go_sem, g1]; rfl); simp [condsOk])); apply s_pick; decide; (simp only [go_sem, g1]; rfl); (simp only [go_sem, g1]; rfl); (simp only [go_sem, g1]; rfl); (simp only [go_sem, g1]; rfl); (simp only [go_sem, g1]; rfl); (simp only [go_sem, g1]; rfl); trivial; simp [condsOk]; trivial; apply s_nil; simp only [AThen, ABlock]; refine hK _ _ ?_; clear hK K)
  refine cond_split (by simp only [go_sem]; try rfl) (fun hd => ?_) (fun hd => ?_)
  · have hlt : i < j.keys.length ∧ i < j.list.length := by simp at hd; omega
    obtain ⟨ky, hky⟩ := gete hlt.1
    obtain ⟨x, hx⟩ := gete hlt.2
    have hgk := jstr_at hky
    have hgx := jget_at hx
    have hz : (j.keys.zip j.list)[i]? = some (ky, x) := by rw [List.getElem?_zip_eq_some]; exact ⟨hky, hx⟩
    (apply AWp_skip; simp only [AThen, ABlock]; refine hK _ _ ?_; clear hK K; refine AWp_seq_k (fun K hK => ?_); apply AWp_block; refine AWp_seq_k (fun K hK => ?_); apply s_region; (iterate 7 (apply s_q; decide; rfl; (simp only [go_sem, g1, hgk]; rfl))); apply s_nil; simp only [AThen, ABlock]; refine hK _ _ ?_; clear hK K)
    refine cond_split (by simp only [go_sem]; try rfl) (fun hq => ?_) (fun hq => ?_)
    · have hf : (j.keys.zip j.list).find? (fun p => decide (p.1 = key)) = some (ky, x) := by
        obtain ⟨hi', he⟩ := List.getElem?_eq_some_iff.1 hz
        rw [List.find?_eq_some_iff_getElem]
        refine ⟨hq, i, hi', he, fun k hk => ?_⟩
        have := hno _ (List.mem_take_iff_getElem.2 ⟨k, by omega, rfl⟩)
        simpa using this
      rw [hf] at h
      (refine AWp_seq_k (fun K hK => ?_); apply s_region; (iterate 5 (apply s_q; decide; rfl; (simp only [go_sem, g1, g2, hgx]; rfl))); apply s_store; (simp only [go_sem, g1, g2, hgx]; rfl); (simp only [go_sem, g1, g2, hgx]; rfl); (simp only [go_sem, g1, g2, hgx]; rfl); apply s_q; decide; rfl; (simp only [go_sem, g1, g2, hgx]; rfl); apply s_nil; simp only [AThen, ABlock]; refine hK _ _ ?_; clear hK K; apply AWp_ret)
      try simp only [AThen, ABlock]
      refine end_ret (av := .tup [.agg x.cells, .v (.bool true)]) (by show resAV X.P _ _ [.cell 4 25, .tmp 5] = _; simp only [go_sem, J.cells_eq x]; try rfl) ⟨_, _, Snap.drop (hE.over hHr), h⟩
    · (apply AWp_skip; simp only [AThen, ABlock]; refine hK _ _ ?_; clear hK K; apply s_region; (iterate 3 (apply s_q; decide; rfl; (simp only [go_sem]; rfl))); apply s_nil; simp only [AThen, ABlock])
      refine ⟨i + 1, by omega, ⟨by omega, ?_⟩, ?_, by trivial⟩
      · rw [List.take_add_one, hz]
        intro y hy
        rcases List.mem_append.1 hy with hy | hy
        · exact hno y hy
        · simp at hy; subst hy; exact hq
      · simp only [getAll, List.map_cons, List.map_nil, AFr.get, reduceIte, Nat.reduceEqDiff]
        rw [wrapS hlt.1 (by omega)]; try rfl
  · have hge : (j.keys.zip j.list).length ≤ i := by simp at hd; omega
    rw [List.take_of_length_le hge] at hno
    have hf : (j.keys.zip j.list).find? (fun p => decide (p.1 = key)) = none := by rw [List.find?_eq_none]; intro x hx; simp [hno x hx]
    rw [hf] at h
    (apply AWp_exit; simp only [AThen, ABlock, reduceIte, Nat.reduceEqDiff]; clear hK K; refine hK _ _ ?_; clear hK K; refine AWp_seq_k (fun K hK => ?_); apply s_region; apply s_q; decide; rfl; (simp only [go_sem, zc_json, g2]; rfl); apply s_store; (simp only [go_sem, zc_json, g2]; rfl); (simp only [go_sem, zc_json, g2]; rfl); (simp only [go_sem, zc_json, g2]; rfl); apply s_q; decide; rfl; (simp only [go_sem, zc_json, g2]; rfl); apply s_nil; simp only [AThen, ABlock]; refine hK _ _ ?_; clear hK K; apply AWp_ret)
    try simp only [AThen, ABlock]
    refine end_ret (av := .tup [.agg [.v (.int .i64 0), .v (.int .i64 0), .s [], .sl true [], .sl true []], .v (.bool false)]) (by show resAV X.P _ _ [.cell 4 25, .tmp 5] = _; simp only [go_sem]; try rfl) ⟨_, _, Snap.trans Snap.loosen (Snap.drop (hE.over hHr)), h⟩
end Go.Proofs.YtpdfgmedbphmkaaGreatDoor
