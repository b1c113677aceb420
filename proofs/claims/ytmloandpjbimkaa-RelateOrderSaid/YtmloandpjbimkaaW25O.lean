/-
  The examples: events, counts that are the same, users of a key. Contracts.
-/
import Derived.Test.YtmloandpjbimkaaW25N
import Derived.Test.YtmloandpjbimkaaW25H
set_option linter.unusedSimpArgs false
set_option linter.unusedVariables false
set_option maxRecDepth 100000
namespace Go.Proofs.Ytmloandpjbimkaa
open Go Go.AL
attribute [local irreducible] AOps AWp SOps AE AT ACall AApp

theorem counts_c (t1 t2 : Bool) (l : List Cnt) (hl : l.length ≤ 1000000) (hu : ∀ c ∈ l, c.users.length ≤ 1000000) (H : AHeap) (K : AV → AHeap → Prop) (h : K (.v (.bool true)) H) : ACall X 18 [.sl t1 (l.map Cnt.cells), .sl t2 (l.map Cnt.cells)] H K := by
  refine ACall_intro Try.func18 rfl (by kernel_rfl) (by rw [Try.ntmps18]; simp) ?_; rw [Try.ntmps18]; simp only [frame0, Nat.reduceAdd]
  (refine AWp_seq_k (fun K hK => ?_); apply s_region; apply s_q; decide; rfl; (simp only [go_sem]; rfl); apply s_nil; simp only [AThen, ABlock]; refine hK _ _ ?_; clear hK K; (iterate 2 (refine AWp_seq_k (fun K hK => ?_))); apply s_region; (iterate 5 (apply s_q; decide; rfl; (simp only [go_sem]; rfl))); apply s_nil; simp only [AThen, ABlock]; refine hK _ _ ?_; clear hK K)
  refine cond_split (by simp only [go_sem]; try rfl) (fun hc => ?_) (fun hc => ?_)
  · simp at hc
  (apply AWp_skip; simp only [AThen, ABlock]; refine hK _ _ ?_; clear hK K; (iterate 2 (refine AWp_seq_k (fun K hK => ?_))); apply s_region; apply s_q; decide; rfl; (simp only [go_sem]; rfl); apply s_nil; simp only [AThen, ABlock]; refine hK _ _ ?_; clear hK K; apply AWp_block)
  refine AWp_loop_s (σ := Nat) [0, 1, 5] (fun i => [.sl t1 (l.map Cnt.cells), .sl t2 (l.map Cnt.cells), .v (.int .i64 i)]) (fun _ => H) (fun i => l.length - i) (fun i => i ≤ l.length) 0 (Nat.zero_le _) rfl rfl (fun i hi => ?_)
  simp only [List.zip_cons_cons, List.zip_nil_right]
  ((iterate 2 (refine AWp_seq_k (fun K hK => ?_))); apply s_region; (iterate 4 (apply s_q; decide; rfl; (simp only [go_sem]; rfl))); apply s_nil; simp only [AThen, ABlock]; refine hK _ _ ?_; clear hK K)
  refine cond_split (by simp only [go_sem]; try rfl) (fun hd => ?_) (fun hd => ?_)
  rotate_left
  · (apply AWp_exit; simp only [AThen, ABlock, reduceIte, Nat.reduceEqDiff]; clear hK K; refine hK _ _ ?_; clear hK K; refine AWp_seq_k (fun K hK => ?_); apply s_region; apply s_q; decide; rfl; (simp only [go_sem]; rfl); apply s_nil; simp only [AThen, ABlock]; refine hK _ _ ?_; clear hK K; apply AWp_ret)
    exact h
  have hlt : i < l.length := by simpa using hd
  obtain ⟨c, hm⟩ := gete hlt
  have hgc := cnt_at hm
  have hul := hu c (List.mem_of_getElem? hm)
  (apply AWp_skip; simp only [AThen, ABlock]; refine hK _ _ ?_; clear hK K; refine AWp_seq_k (fun K hK => ?_); apply AWp_block; (iterate 2 (refine AWp_seq_k (fun K hK => ?_))))
  apply AWp_drawA [0, 1, 2, 3, 4, 5, 6, 7, 8, 9, 10, 11, 12, 13, 14, 15, 16, 17, 18, 19, 20, 21, 22, 23, 24, 25] [] 0 (by exact mixed); kernel_rfl; (simp only [go_sem]; rfl); (simp only [go_sem]; rfl)
  ((iterate 12 (apply e_q; decide; (simp only [go_sem, hgc]; rfl))); (iterate 13 (apply e_spec; decide; (simp only [go_sem, hgc]; rfl); (simp only [go_sem, hgc]; rfl); (simp only [go_sem, hgc]; rfl); (simp only [go_sem, hgc]; rfl); trivial)); apply e_pick; decide; (simp only [go_sem, hgc]; rfl); (simp only [go_sem, hgc]; rfl); (simp only [go_sem, hgc]; rfl); (simp only [go_sem, hgc]; rfl); (simp only [go_sem, hgc]; rfl); (simp only [go_sem, hgc]; rfl); trivial; trivial; trivial; apply e_nil; apply t_nil; simp only [AThen, ABlock]; refine hK _ _ ?_; clear hK K)
  refine cond_split (by simp only [go_sem]; try rfl) (fun he => ?_) (fun he => ?_)
  · simp at he
  (apply AWp_skip; simp only [AThen, ABlock]; refine hK _ _ ?_; clear hK K; refine AWp_seq_k (fun K hK => ?_); apply s_region; apply s_q; decide; rfl; (simp only [go_sem]; rfl); apply s_nil; simp only [AThen, ABlock]; refine hK _ _ ?_; clear hK K; apply AWp_block)
  refine AWp_loop_s (σ := Nat) [0, 1, 5, 6] (fun k => [.sl t1 (l.map Cnt.cells), .sl t2 (l.map Cnt.cells), .v (.int .i64 i), .v (.int .i64 k)]) (fun _ => H) (fun k => c.users.length - k) (fun k => k ≤ c.users.length) 0 (Nat.zero_le _) rfl rfl (fun k hk => ?_)
  simp only [List.zip_cons_cons, List.zip_nil_right]
  have hlu : (c.users.map strCells).length = c.users.length := List.length_map _
  ((iterate 2 (refine AWp_seq_k (fun K hK => ?_))); apply s_region; (iterate 8 (apply s_q; decide; rfl; (simp only [go_sem, hgc, hlu]; rfl))); apply s_nil; simp only [AThen, ABlock]; refine hK _ _ ?_; clear hK K)
  refine cond_split (by simp only [go_sem]; try rfl) (fun hf => ?_) (fun hf => ?_)
  · have hlk : k < c.users.length := by simpa using hf
    obtain ⟨u, hum⟩ := gete hlk
    have hgu := jstr_at hum
    (apply AWp_skip; simp only [AThen, ABlock]; refine hK _ _ ?_; clear hK K; refine AWp_seq_k (fun K hK => ?_); apply AWp_block; refine AWp_seq_k (fun K hK => ?_))
    apply AWp_drawA [0, 1, 2, 3, 4, 5, 6, 7, 8, 9, 10, 11, 12, 13, 14, 15, 16] [] 0 (by exact mixed); kernel_rfl; (simp only [go_sem]; rfl); (simp only [go_sem]; rfl)
    ((iterate 17 (apply e_q; decide; (simp only [go_sem, hgc, hgu]; rfl))); apply e_nil; apply t_nil; simp only [AThen, ABlock]; refine hK _ _ ?_; clear hK K)
    refine cond_split (by simp only [go_sem]; try rfl) (fun hg => ?_) (fun hg => ?_)
    · simp at hg
    (apply AWp_skip; simp only [AThen, ABlock]; refine hK _ _ ?_; clear hK K; apply s_region; (iterate 3 (apply s_q; decide; rfl; (simp only [go_sem]; rfl))); apply s_nil; simp only [AThen, ABlock])
    refine ⟨k + 1, by omega, by omega, ?_, by trivial⟩
    simp only [getAll, List.map_cons, List.map_nil, AFr.get]
    rw [wrapS hlk (by omega)]; rfl
  · (apply AWp_exit; simp only [AThen, ABlock, reduceIte, Nat.reduceEqDiff]; clear hK K; refine hK _ _ ?_; clear hK K; apply s_region; (iterate 3 (apply s_q; decide; rfl; (simp only [go_sem]; rfl))); apply s_nil; simp only [AThen, ABlock])
    refine ⟨i + 1, by omega, by omega, ?_, by trivial⟩
    simp only [getAll, List.map_cons, List.map_nil, AFr.get]
    rw [wrapS hlt (by omega)]; rfl
/-- the users of a key -/
def usersAt (l : List Cnt) (key : List UInt8) : List (List UInt8) := match l.find? (fun c => decide (c.key = key)) with | some c => c.users | none => []
theorem usersAt_c (t : Bool) (l : List Cnt) (hl : l.length ≤ 1000000) (key : List UInt8) (H : AHeap) (K : AV → AHeap → Prop) (h : K (.sl (l.find? (fun c => decide (c.key = key))).isNone ((usersAt l key).map strCells)) H) : ACall X 15 [.sl t (l.map Cnt.cells), .s key] H K := by
  refine ACall_intro Try.func15 rfl (by kernel_rfl) (by rw [Try.ntmps15]; simp) ?_; rw [Try.ntmps15]; simp only [frame0, Nat.reduceAdd]
  (refine AWp_seq_k (fun K hK => ?_); apply s_region; apply s_q; decide; rfl; (simp only [go_sem]; rfl); apply s_nil; simp only [AThen, ABlock]; refine hK _ _ ?_; clear hK K; (iterate 2 (refine AWp_seq_k (fun K hK => ?_))); apply s_region; apply s_q; decide; rfl; (simp only [go_sem]; rfl); apply s_nil; simp only [AThen, ABlock]; refine hK _ _ ?_; clear hK K; apply AWp_block)
  refine AWp_loop_s (σ := Nat) [0, 1, 5] (fun i => [.sl t (l.map Cnt.cells), .s key, .v (.int .i64 i)]) (fun _ => H) (fun i => l.length - i) (fun i => i ≤ l.length ∧ ∀ x ∈ l.take i, decide (x.key = key) = false) 0 ⟨Nat.zero_le _, by simp⟩ rfl rfl (fun i hi => ?_)
  simp only [List.zip_cons_cons, List.zip_nil_right]
  ((iterate 2 (refine AWp_seq_k (fun K hK => ?_))); apply s_region; (iterate 4 (apply s_q; decide; rfl; (simp only [go_sem]; rfl))); apply s_nil; simp only [AThen, ABlock]; refine hK _ _ ?_; clear hK K)
  refine cond_split (by simp only [go_sem]; try rfl) (fun hd => ?_) (fun hd => ?_)
  · have hlt : i < l.length := by simpa using hd
    obtain ⟨c, hm⟩ := gete hlt
    have hgc := cnt_at hm
    (apply AWp_skip; simp only [AThen, ABlock]; refine hK _ _ ?_; clear hK K; refine AWp_seq_k (fun K hK => ?_); apply AWp_block; refine AWp_seq_k (fun K hK => ?_); apply s_region; (iterate 7 (apply s_q; decide; rfl; (simp only [go_sem, hgc]; rfl))); apply s_nil; simp only [AThen, ABlock]; refine hK _ _ ?_; clear hK K)
    refine cond_split (by simp only [go_sem]; try rfl) (fun he => ?_) (fun he => ?_)
    · have hf : l.find? (fun c => decide (c.key = key)) = some c := by
        rw [List.find?_eq_some_iff_getElem]
        refine ⟨by simpa using he, i, hlt, (List.getElem?_eq_some_iff.1 hm).2, fun j hj => ?_⟩
        have := hi.2 l[j] (List.mem_take_iff_getElem.2 ⟨j, by omega, rfl⟩)
        simp [this]
      have hu : usersAt l key = c.users := by rw [usersAt, hf]
      (refine AWp_seq_k (fun K hK => ?_); apply s_region; (iterate 6 (apply s_q; decide; rfl; (simp only [go_sem, hgc]; rfl))); apply s_nil; simp only [AThen, ABlock]; refine hK _ _ ?_; clear hK K; apply AWp_ret; simp only [AThen, ABlock]; apply end_ret; rfl; simp only [AFr.get, reduceIte, Nat.reduceEqDiff])
      rw [hu, hf] at h
      exact h
    · (apply AWp_skip; simp only [AThen, ABlock]; refine hK _ _ ?_; clear hK K; apply s_region; (iterate 3 (apply s_q; decide; rfl; (simp only [go_sem]; rfl))); apply s_nil; simp only [AThen, ABlock])
      refine ⟨i + 1, by omega, ⟨by omega, ?_⟩, ?_, by trivial⟩
      · intro x hx
        rcases take_mem_succ hm hx with hx | hx
        · exact hi.2 x hx
        · subst hx; exact he
      · simp only [getAll, List.map_cons, List.map_nil, AFr.get]
        rw [wrapS hlt (by omega)]; rfl
  · have hge : l.length ≤ i := by simpa using hd
    have hno := hi.2
    rw [List.take_of_length_le hge] at hno
    have hf : l.find? (fun c => decide (c.key = key)) = none := by rw [List.find?_eq_none]; intro x hx; simp [hno x hx]
    have hu : usersAt l key = [] := by rw [usersAt, hf]
    (apply AWp_exit; simp only [AThen, ABlock, reduceIte, Nat.reduceEqDiff]; clear hK K; refine hK _ _ ?_; clear hK K; refine AWp_seq_k (fun K hK => ?_); apply s_region; apply s_q; decide; rfl; (simp only [go_sem]; rfl); apply s_nil; simp only [AThen, ABlock]; refine hK _ _ ?_; clear hK K; apply AWp_ret)
    rw [hu, hf] at h
    exact h
def strJ (s : List UInt8) : J := .mk 3 0 s [] []
theorem strj_c (s : List UInt8) (H : AHeap) (K : AV → AHeap → Prop) (h : K (.agg (strJ s).cells) H) : ACall X 52 [.s s] H K := by
  refine ACall.drop (ACall.loose ?_)
  refine ACall_intro Try.func52 rfl (by kernel_rfl) (by rw [Try.ntmps52]; simp) ?_; rw [Try.ntmps52]; simp only [frame0, Nat.reduceAdd]
  (refine AWp_seq_k (fun K hK => ?_); apply s_region; apply s_alloc; decide; exact zc_25; intro b hb; apply s_nil; simp only [AThen, ABlock]; refine hK _ _ ?_; clear hK K; refine AWp_seq_k (fun K hK => ?_); apply s_region; (iterate 2 (apply s_q; decide; rfl; (simp only [go_sem]; rfl))); apply s_store; (simp only [go_sem]; rfl); (simp only [go_sem]; rfl); (simp only [go_sem]; rfl); apply s_nil; simp only [AThen, ABlock]; refine hK _ _ ?_; clear hK K; apply AWp_ret)
  refine end_ret (av := .agg [.v (.int .i64 3), .v (.int .i64 0), .s s, .sl true [], .sl true []]) (by show resAV X.P _ _ [.cell 2 25] = _; simp only [go_sem]; try rfl) ⟨H, Ext.fresh (by assumption), ?_⟩
  exact h
def kMsg : List UInt8 := [109, 46, 114, 111, 111, 109, 46, 109, 101, 115, 115, 97, 103, 101]
def relJ (kind id key : List UInt8) : J := .mk 5 0 [] [kType, kId, kKey] [strJ kind, strJ id, strJ key]
def evK (name sender kind id key : List UInt8) : Kn := ⟨name, ⟨[], kMsg, sender, false, [], .mk 5 0 [] [kRel, kBody] [relJ kind id key, strJ [98]], [], [], 0, 0, [], []⟩⟩
set_option maxHeartbeats 2000000 in
theorem mkEvent_c (name sender kind id key : List UInt8) (H : AHeap) (K : AV → AHeap → Prop) (h : K (.agg (evK name sender kind id key).cells) H) : ACall X 30 [.s name, .s sender, .s kind, .s id, .s key] H K := by
  refine ACall.drop (ACall.loose ?_)
  have hS : ∀ (s : List UInt8) (H : AHeap) (K : AV → AHeap → Prop), K (.agg [.v (.int .i64 3), .v (.int .i64 0), .s s, .sl false [], .sl false []]) H → ACall X 52 [.s s] H K := fun s H K hk => strj_c s H K hk
  have hP0 : ∀ (k s : List UInt8) (H : AHeap) (K : AV → AHeap → Prop), K (.agg [.v (.int .i64 5), .v (.int .i64 0), .s [], .sl false [[.s k]], .sl false [[.v (.int .i64 3), .v (.int .i64 0), .s s, .sl false [], .sl false []]]]) H → ACall X 51 [.agg [.v (.int .i64 5), .v (.int .i64 0), .s [], .sl true [], .sl true []], .s k, .agg [.v (.int .i64 3), .v (.int .i64 0), .s s, .sl false [], .sl false []]] H K := fun k s H K hk =>
    ACall.loosen (jput_c (.mk 5 0 [] [] []) (strJ s) k (by simp [J.keys, J.list]) H K hk)
  have hP1 : ∀ (k1 k s1 s : List UInt8) (H : AHeap) (K : AV → AHeap → Prop), K (.agg [.v (.int .i64 5), .v (.int .i64 0), .s [], .sl false [[.s k1], [.s k]], .sl false [[.v (.int .i64 3), .v (.int .i64 0), .s s1, .sl false [], .sl false []], [.v (.int .i64 3), .v (.int .i64 0), .s s, .sl false [], .sl false []]]]) H → ACall X 51 [.agg [.v (.int .i64 5), .v (.int .i64 0), .s [], .sl false [[.s k1]], .sl false [[.v (.int .i64 3), .v (.int .i64 0), .s s1, .sl false [], .sl false []]]], .s k, .agg [.v (.int .i64 3), .v (.int .i64 0), .s s, .sl false [], .sl false []]] H K := fun k1 k s1 s H K hk =>
    jput_c (.mk 5 0 [] [k1] [strJ s1]) (strJ s) k (by simp [J.keys, J.list]) H K hk
  have hP2 : ∀ (k1 k2 k s1 s2 s : List UInt8) (H : AHeap) (K : AV → AHeap → Prop), K (.agg [.v (.int .i64 5), .v (.int .i64 0), .s [], .sl false [[.s k1], [.s k2], [.s k]], .sl false [(strJ s1).cells, (strJ s2).cells, (strJ s).cells]]) H → ACall X 51 [.agg [.v (.int .i64 5), .v (.int .i64 0), .s [], .sl false [[.s k1], [.s k2]], .sl false [[.v (.int .i64 3), .v (.int .i64 0), .s s1, .sl false [], .sl false []], [.v (.int .i64 3), .v (.int .i64 0), .s s2, .sl false [], .sl false []]]], .s k, .agg [.v (.int .i64 3), .v (.int .i64 0), .s s, .sl false [], .sl false []]] H K := fun k1 k2 k s1 s2 s H K hk =>
    jput_c (.mk 5 0 [] [k1, k2] [strJ s1, strJ s2]) (strJ s) k (by simp [J.keys, J.list]) H K hk
  have hrj : (J.mk 5 0 [] [kType, kId, kKey] [strJ kind, strJ id, strJ key]).cells = [.v (.int .i64 5), .v (.int .i64 0), .s [], .sl false [[.s kType], [.s kId], [.s kKey]], .sl false [(strJ kind).cells, (strJ id).cells, (strJ key).cells]] := rfl
  have hP3 : ∀ (H : AHeap) (K : AV → AHeap → Prop), K (.agg [.v (.int .i64 5), .v (.int .i64 0), .s [], .sl false [[.s kRel]], .sl false [(relJ kind id key).cells]]) H → ACall X 51 [.agg [.v (.int .i64 5), .v (.int .i64 0), .s [], .sl true [], .sl true []], .s kRel, .agg [.v (.int .i64 5), .v (.int .i64 0), .s [], .sl false [[.s kType], [.s kId], [.s kKey]], .sl false [(strJ kind).cells, (strJ id).cells, (strJ key).cells]]] H K := fun H K hk =>
    ACall.loosen (jput_c (.mk 5 0 [] [] []) (relJ kind id key) kRel (by simp [J.keys, J.list]) H K hk)
  have hP4 : ∀ (H : AHeap) (K : AV → AHeap → Prop), K (.agg [.v (.int .i64 5), .v (.int .i64 0), .s [], .sl false [[.s kRel], [.s kBody]], .sl false [(relJ kind id key).cells, (strJ [98]).cells]]) H → ACall X 51 [.agg [.v (.int .i64 5), .v (.int .i64 0), .s [], .sl false [[.s kRel]], .sl false [(relJ kind id key).cells]], .s kBody, .agg [.v (.int .i64 3), .v (.int .i64 0), .s [98], .sl false [], .sl false []]] H K := fun H K hk =>
    jput_c (.mk 5 0 [] [kRel] [relJ kind id key]) (strJ [98]) kBody (by simp [J.keys, J.list]) H K hk
  refine ACall_intro Try.func30 rfl (by kernel_rfl) (by rw [Try.ntmps30]; simp) ?_; rw [Try.ntmps30]; simp only [frame0, Nat.reduceAdd]
  refine AWp_seq_k (fun K hK => ?_); apply s_region
  apply s_alloc; decide; exact zc_35; intro p10 hp10
  have hE := Ext.fresh hp10 (o := .box 35 (bestCs none))
  have g10 := AHeap.get_put_same p10 (.box 35 (bestCs none)) H
  show SOps X _ _ _ _ _ (H.put p10 (.box 35 (bestCs none)))
  generalize H.put p10 (.box 35 (bestCs none)) = M at hE g10 ⊢
  simp only [bestCs] at g10
  (apply s_nil; simp only [AThen, ABlock]; refine hK _ _ ?_; clear hK K; refine AWp_seq_k (fun K hK => ?_); apply s_region; (iterate 2 (apply s_q; decide; rfl; (simp only [go_sem]; rfl))); apply s_call; decide; (simp only [go_sem]; rfl); (simp only [go_sem]; rfl); apply hS; apply s_call; decide; (simp only [go_sem]; rfl); (simp only [go_sem]; rfl); apply hP0 kType; apply s_alloc; decide; exact zc_25; intro b hb; apply s_store; (simp only [go_sem]; rfl); (simp only [go_sem]; rfl); (simp only [go_sem]; rfl); apply s_nil; simp only [AThen, ABlock]; refine hK _ _ ?_; clear hK K; refine AWp_seq_k (fun K hK => ?_))
  obtain ⟨p11, hnewq⟩ : ∃ q, q = b := ⟨_, rfl⟩; have hp11 := hb; rw [← hnewq] at hp11 ⊢; clear hb hnewq; try clear he; clear b
  have hH11 := none_of_ext hE hp11
  have h1011 : p10 ≠ p11 := by rintro rfl; rw [g10] at hp11; cases hp11
  generalize hgenq : AHeap.put p11 _ M = M1; obtain ⟨g11, hextq⟩ := gen_ex hgenq hp11; have g10 := hextq _ _ g10; have hE := Ext.trans hE hextq; clear hextq hgenq
  apply AWp_drawA [0, 1, 2, 3] [4] 0 (by exact mixed); kernel_rfl; (simp only [go_sem]; rfl); (simp only [go_sem]; rfl)
  ((iterate 2 (apply e_q; decide; (simp only [go_sem, g11]; rfl))); apply e_call; decide; (simp only [go_sem, g11]; rfl); (simp only [go_sem, g11]; rfl); (apply hS; exact ⟨rfl, rfl⟩); apply e_call; decide; (simp only [go_sem, g11]; rfl); (simp only [go_sem, g11]; rfl); (apply hP1 kType kId; exact ⟨rfl, rfl⟩); apply e_nil; apply t_storex; (simp only [go_sem, g11]; rfl); (simp only [go_sem, g11]; rfl); (simp only [go_sem, g11]; rfl); (first | (intro _; exact Ext.put (Ext.refl _) (by assumption)) | (intro h; exact absurd h (by decide)) | (intro _; exact Ext.put (by assumption) (by assumption))); apply t_nil; simp only [AThen, ABlock]; refine hK _ _ ?_; clear hK K; refine AWp_seq_k (fun K hK => ?_))
  have hE2 := Ext.over (o := .box 25 [.v (.int .i64 5), .v (.int .i64 0), .s [], .sl false [[.s kType], [.s kId]], .sl false [[.v (.int .i64 3), .v (.int .i64 0), .s kind, .sl false [], .sl false []], [.v (.int .i64 3), .v (.int .i64 0), .s id, .sl false [], .sl false []]]]) hE hH11
  have g10b := get_other (x := .box 25 [.v (.int .i64 5), .v (.int .i64 0), .s [], .sl false [[.s kType], [.s kId]], .sl false [[.v (.int .i64 3), .v (.int .i64 0), .s kind, .sl false [], .sl false []], [.v (.int .i64 3), .v (.int .i64 0), .s id, .sl false [], .sl false []]]]) g10 h1011
  have g11b := AHeap.get_put_same p11 (.box 25 [.v (.int .i64 5), .v (.int .i64 0), .s [], .sl false [[.s kType], [.s kId]], .sl false [[.v (.int .i64 3), .v (.int .i64 0), .s kind, .sl false [], .sl false []], [.v (.int .i64 3), .v (.int .i64 0), .s id, .sl false [], .sl false []]]]) M1
  generalize AHeap.put p11 (.box 25 [.v (.int .i64 5), .v (.int .i64 0), .s [], .sl false [[.s kType], [.s kId]], .sl false [[.v (.int .i64 3), .v (.int .i64 0), .s kind, .sl false [], .sl false []], [.v (.int .i64 3), .v (.int .i64 0), .s id, .sl false [], .sl false []]]]) M1 = M2 at hE2 g10b g11b ⊢
  apply AWp_drawA [0, 1, 2, 3] [4] 0 (by exact mixed); kernel_rfl; (simp only [go_sem]; rfl); (simp only [go_sem]; rfl)
  ((iterate 2 (apply e_q; decide; (simp only [go_sem, g11b]; rfl))); apply e_call; decide; (simp only [go_sem, g11b]; rfl); (simp only [go_sem, g11b]; rfl); (apply hS; exact ⟨rfl, rfl⟩); apply e_call; decide; (simp only [go_sem, g11b]; rfl); (simp only [go_sem, g11b]; rfl); (apply hP2 kType kId kKey; exact ⟨rfl, rfl⟩); apply e_nil; apply t_storex; (simp only [go_sem, g11b]; rfl); (simp only [go_sem, g11b]; rfl); (simp only [go_sem, g11b]; rfl); (first | (intro _; exact Ext.put (Ext.refl _) (by assumption)) | (intro h; exact absurd h (by decide)) | (intro _; exact Ext.put (by assumption) (by assumption))); apply t_nil; simp only [AThen, ABlock]; refine hK _ _ ?_; clear hK K; refine AWp_seq_k (fun K hK => ?_); apply s_region; (iterate 2 (apply s_q; decide; rfl; (simp only [go_sem, g11b]; rfl))); apply s_call; decide; (simp only [go_sem, g11b]; rfl); (simp only [go_sem, g11b]; rfl); apply hP3; apply s_alloc; decide; exact zc_25; intro b hb; apply s_store; (simp only [go_sem, g11b]; rfl); (simp only [go_sem, g11b]; rfl); (simp only [go_sem, g11b]; rfl); apply s_nil; simp only [AThen, ABlock]; refine hK _ _ ?_; clear hK K; refine AWp_seq_k (fun K hK => ?_))
  have hE3 := Ext.over (o := .box 25 [.v (.int .i64 5), .v (.int .i64 0), .s [], .sl false [[.s kType], [.s kId], [.s kKey]], .sl false [(strJ kind).cells, (strJ id).cells, (strJ key).cells]]) hE2 hH11
  have g10c := get_other (x := .box 25 [.v (.int .i64 5), .v (.int .i64 0), .s [], .sl false [[.s kType], [.s kId], [.s kKey]], .sl false [(strJ kind).cells, (strJ id).cells, (strJ key).cells]]) g10b h1011
  obtain ⟨p12, hnewq⟩ : ∃ q, q = b := ⟨_, rfl⟩; have hp12 := hb; rw [← hnewq] at hp12 ⊢; clear hb hnewq; try clear he; clear b
  generalize AHeap.put p11 (.box 25 [.v (.int .i64 5), .v (.int .i64 0), .s [], .sl false [[.s kType], [.s kId], [.s kKey]], .sl false [(strJ kind).cells, (strJ id).cells, (strJ key).cells]]) M2 = M3 at hE3 g10c hp12 ⊢
  have hH12 := none_of_ext hE3 hp12
  have h1012 : p10 ≠ p12 := by rintro rfl; rw [g10c] at hp12; cases hp12
  generalize hgenq : AHeap.put p12 _ M3 = M4; obtain ⟨g12, hextq⟩ := gen_ex hgenq hp12; have g10c := hextq _ _ g10c; have hE3 := Ext.trans hE3 hextq; clear hextq hgenq
  apply AWp_drawA [0, 1, 2] [3] 0 (by exact mixed); kernel_rfl; (simp only [go_sem]; rfl); (simp only [go_sem]; rfl)
  (apply e_q; decide; (simp only [go_sem, g12]; rfl); apply e_call; decide; (simp only [go_sem, g12]; rfl); (simp only [go_sem, g12]; rfl); (apply hS; exact ⟨rfl, rfl⟩); apply e_call; decide; (simp only [go_sem, g12]; rfl); (simp only [go_sem, g12]; rfl); (apply hP4; exact ⟨rfl, rfl⟩); apply e_nil; apply t_storex; (simp only [go_sem, g12]; rfl); (simp only [go_sem, g12]; rfl); (simp only [go_sem, g12]; rfl); (first | (intro _; exact Ext.put (Ext.refl _) (by assumption)) | (intro h; exact absurd h (by decide)) | (intro _; exact Ext.put (by assumption) (by assumption))); apply t_nil; simp only [AThen, ABlock]; refine hK _ _ ?_; clear hK K; refine AWp_seq_k (fun K hK => ?_); apply s_region; (iterate 5 (apply s_q; decide; rfl; (simp only [go_sem, g12]; rfl))))
  have hE5 := Ext.over (o := .box 25 [.v (.int .i64 5), .v (.int .i64 0), .s [], .sl false [[.s kRel], [.s kBody]], .sl false [(relJ kind id key).cells, (strJ [98]).cells]]) hE3 hH12
  have g10d := get_other (x := .box 25 [.v (.int .i64 5), .v (.int .i64 0), .s [], .sl false [[.s kRel], [.s kBody]], .sl false [(relJ kind id key).cells, (strJ [98]).cells]]) g10c h1012
  generalize AHeap.put p12 (.box 25 [.v (.int .i64 5), .v (.int .i64 0), .s [], .sl false [[.s kRel], [.s kBody]], .sl false [(relJ kind id key).cells, (strJ [98]).cells]]) M4 = M5 at hE5 g10d ⊢
  (apply s_store; (simp only [go_sem, g10d]; rfl); (simp only [go_sem, g10d]; rfl); (simp only [go_sem, g10d]; rfl); apply s_nil; simp only [AThen, ABlock]; refine hK _ _ ?_; clear hK K; apply AWp_ret)
  refine end_ret (av := .agg [.s name, .s [], .s kMsg, .s sender, .v (.bool false), .s [], .v (.int .i64 5), .v (.int .i64 0), .s [], .sl false [[.s kRel], [.s kBody]], .sl false [(relJ kind id key).cells, (strJ [98]).cells], .sl true [], .sl true [], .v (.int .i64 0), .v (.int .i64 0), .s [], .sl true []]) (by show resAV X.P _ _ [.cell 10 35] = _; simp only [go_sem]; try rfl) ⟨H, Ext.over hE5 hp10, ?_⟩
  exact h
/-! the examples -/
def idA : List UInt8 := [36, 65, 65, 65, 65, 65, 65, 65, 65, 65, 65, 69]
def ex0 : Kn := evK idA [99] [] [] []
def ex1 : Kn := evK [49] [97] kReact idA [43]
def ex2 : Kn := evK [50] [98] kReact idA [43]
def ex3 : Kn := evK [51] [97] kReact idA [45]
def ex4 : Kn := evK [52] [97] kEdit idA []
def exL : List Kn := [ex0, ex1, ex2, ex3, ex4]
theorem ex_first : firstL exL = exL := by rfl
theorem ex_rel0 : relOf ex0.ev = ([], [], []) := by rfl
theorem ex_rel1 : relOf ex1.ev = (kReact, idA, [43]) := by rfl
theorem ex_rel2 : relOf ex2.ev = (kReact, idA, [43]) := by rfl
theorem ex_rel3 : relOf ex3.ev = (kReact, idA, [45]) := by rfl
theorem ex_rel4 : relOf ex4.ev = (kEdit, idA, []) := by rfl
theorem ex_about : aboutL exL kReact idA = [ex1, ex2, ex3] := by
  have h0 : isAbout kReact idA ex0 = false := by rw [isAbout, ex_rel0]; rfl
  have h1 : isAbout kReact idA ex1 = true := by rw [isAbout, ex_rel1]; rfl
  have h2 : isAbout kReact idA ex2 = true := by rw [isAbout, ex_rel2]; rfl
  have h3 : isAbout kReact idA ex3 = true := by rw [isAbout, ex_rel3]; rfl
  have h4 : isAbout kReact idA ex4 = false := by rw [isAbout, ex_rel4]; rfl
  rw [aboutL, ex_first, exL]
  simp only [List.filter_cons, List.filter_nil, h0, h1, h2, h3, h4]
  rfl
theorem ex_keys : keysOf [ex1, ex2, ex3] = [[43], [45]] := by
  have h1 : rkey ex1 = [43] := by rw [rkey, ex_rel1]
  have h2 : rkey ex2 = [43] := by rw [rkey, ex_rel2]
  have h3 : rkey ex3 = [45] := by rw [rkey, ex_rel3]
  rw [keysOf, List.map_cons, List.map_cons, List.map_cons, h1, h2, h3]; rfl
theorem ex_users1 : usersOf [ex1, ex2, ex3] [43] = [[97], [98]] := by
  have h1 : rkey ex1 = [43] := by rw [rkey, ex_rel1]
  have h2 : rkey ex2 = [43] := by rw [rkey, ex_rel2]
  have h3 : rkey ex3 = [45] := by rw [rkey, ex_rel3]
  rw [usersOf, List.filter_cons, List.filter_cons, List.filter_cons, h1, h2, h3]; rfl
theorem ex_users2 : usersOf [ex1, ex2, ex3] [45] = [[97]] := by
  have h1 : rkey ex1 = [43] := by rw [rkey, ex_rel1]
  have h2 : rkey ex2 = [43] := by rw [rkey, ex_rel2]
  have h3 : rkey ex3 = [45] := by rw [rkey, ex_rel3]
  rw [usersOf, List.filter_cons, List.filter_cons, List.filter_cons, h1, h2, h3]; rfl
theorem sortL_of {l m : List (List UInt8)} (hn : l.Nodup) (hm : Rising m) (h : ∀ x, x ∈ l ↔ x ∈ m) : sortL l = m :=
  rising_eq (sortL_rising hn) hm fun x => by rw [(sortL_perm l).mem_iff]; exact h x
theorem ex_react : reactL exL idA = [⟨[43], [[97], [98]]⟩, ⟨[45], [[97]]⟩] := by
  have s1 : sendersOf [ex1, ex2, ex3] [43] = [[97], [98]] := by
    rw [sendersOf, ex_users1]
    exact sortL_of (by decide) (by simp [Rising]; decide) (fun _ => Iff.rfl)
  have s2 : sendersOf [ex1, ex2, ex3] [45] = [[97]] := by
    rw [sendersOf, ex_users2]
    exact sortL_of (by decide) (by simp [Rising]) (fun _ => Iff.rfl)
  have hc : cntsOf [ex1, ex2, ex3] = [⟨[43], [[97], [98]]⟩, ⟨[45], [[97]]⟩] := by
    rw [cntsOf, ex_keys, List.map_cons, List.map_cons, s1, s2]; rfl
  rw [reactL, ex_about, hc]
  refine (sortC_eq (by simp) (List.Perm.refl _) ?_).symm
  simp [leC_iff, ahead]
theorem ex_edits : editsL exL idA ex0.ev = [] := by
  have h0 : isAbout kEdit idA ex0 = false := by rw [isAbout, ex_rel0]; rfl
  have h1 : isAbout kEdit idA ex1 = false := by rw [isAbout, ex_rel1]; rfl
  have h2 : isAbout kEdit idA ex2 = false := by rw [isAbout, ex_rel2]; rfl
  have h3 : isAbout kEdit idA ex3 = false := by rw [isAbout, ex_rel3]; rfl
  have h4 : isAbout kEdit idA ex4 = true := by rw [isAbout, ex_rel4]; rfl
  have ha : aboutL exL kEdit idA = [ex4] := by
    rw [aboutL, ex_first, exL]
    simp only [List.filter_cons, List.filter_nil, h0, h1, h2, h3, h4]
    rfl
  rw [editsL, ex_rel0, ha]; rfl
theorem ex_body : bodyL exL idA = ([98], 0) := by
  have hf : exL.find? (fun k => decide (k.name = idA)) = some ex0 := rfl
  unfold bodyL
  rw [hf]
  simp only
  rw [ex_edits]; rfl
theorem ev_len (name sender kind id key : List UInt8) : (evK name sender kind id key).ev.content.Len := by
  simp only [evK, relJ, strJ, J.Len, J.Lens]
  simp
theorem ex_ok : ∀ k ∈ exL, k.Ok := fun k hk => by
  simp only [exL, List.mem_cons, List.not_mem_nil, or_false] at hk
  rcases hk with rfl | rfl | rfl | rfl | rfl <;> exact ev_len _ _ _ _ _
theorem ex_snd : ∀ k ∈ exL, k.ev.sender.length ≤ 4611686018427387904 := fun k hk => by
  simp only [exL, List.mem_cons, List.not_mem_nil, or_false] at hk
  rcases hk with rfl | rfl | rfl | rfl | rfl <;> decide
theorem awake_c (hS : HSort) (hKy : HKeys) (H : AHeap) (K : AV → AHeap → Prop) (h : K (.v (.bool true)) H) : ACall X 12 [] H K := by
  have hR : ∀ (H : AHeap) (K : AV → AHeap → Prop), K (.sl false [[.s [43], .sl false [[.s [97]], [.s [98]]]], [.s [45], .sl false [[.s [97]]]]]) H → ACall X 16 [.sl true (exL.map Kn.cells), .s idA] H K := fun H K hk =>
    reactions_c hS hKy true exL idA (by decide) ex_ok ex_snd H K (by rw [ex_react]; exact hk)
  have hB : ∀ (H : AHeap) (K : AV → AHeap → Prop), K (.tup [.s [98], .v (.int .i64 0)]) H → ACall X 14 [.sl true (exL.map Kn.cells), .s idA] H K := fun H K hk =>
    body_c true exL idA (by decide) ex_ok H K (by rw [ex_body]; exact hk)
  refine ACall_intro Try.func12 rfl (by kernel_rfl) (by rw [Try.ntmps12]; simp) ?_; rw [Try.ntmps12]; simp only [frame0, Nat.reduceAdd]
  have h00 : (0 : Int) ≤ 0 := Int.le_refl 0
  have ht0 : Int.toNat 0 = 0 := rfl
  have h01 : (0 : Int) ≤ 1 := by decide
  have ht1 : Int.toNat 1 = 1 := rfl
  (refine AWp_seq_k (fun K hK => ?_); apply s_region; apply s_q; decide; rfl; (simp only [go_sem]; rfl); apply s_nil; simp only [AThen, ABlock]; refine hK _ _ ?_; clear hK K; refine AWp_seq_k (fun K hK => ?_); apply s_region; apply s_q; decide; rfl; (simp only [go_sem]; rfl); apply s_nil; simp only [AThen, ABlock]; refine hK _ _ ?_; clear hK K; refine AWp_seq_k (fun K hK => ?_); apply s_region; apply s_q; decide; rfl; (simp only [go_sem]; rfl); apply s_call; decide; (simp only [go_sem]; rfl); (simp only [go_sem]; rfl); apply mkEvent_c; apply s_q; decide; rfl; (simp only [go_sem]; rfl); apply s_call; decide; (simp only [go_sem]; rfl); (simp only [go_sem]; rfl); apply mkEvent_c; apply s_q; decide; rfl; (simp only [go_sem]; rfl); apply s_call; decide; (simp only [go_sem]; rfl); (simp only [go_sem]; rfl); apply mkEvent_c; apply s_q; decide; rfl; (simp only [go_sem]; rfl); apply s_call; decide; (simp only [go_sem]; rfl); (simp only [go_sem]; rfl); apply mkEvent_c; apply s_q; decide; rfl; (simp only [go_sem]; rfl); apply s_call; decide; (simp only [go_sem]; rfl); (simp only [go_sem]; rfl); apply mkEvent_c; apply s_lit; decide; exact el_33; (simp only [go_sem]; rfl); (simp only [go_sem]; rfl); decide; apply s_q; decide; rfl; (simp only [go_sem]; rfl); apply s_nil; simp only [AThen, ABlock]; refine hK _ _ ?_; clear hK K; refine AWp_seq_k (fun K hK => ?_); apply s_region; (iterate 2 (apply s_q; decide; rfl; (simp only [go_sem]; rfl))); apply s_call; decide; (simp only [go_sem]; rfl); (simp only [go_sem]; rfl); apply hR; apply s_q; decide; rfl; (simp only [go_sem]; rfl); apply s_nil; simp only [AThen, ABlock]; refine hK _ _ ?_; clear hK K; refine AWp_seq_k (fun K hK => ?_); apply s_region; (iterate 2 (apply s_q; decide; rfl; (simp only [go_sem]; rfl))); apply s_call; decide; (simp only [go_sem]; rfl); (simp only [go_sem]; rfl); apply hB; (iterate 5 (apply s_q; decide; rfl; (simp only [go_sem]; rfl))); apply s_nil; simp only [AThen, ABlock]; refine hK _ _ ?_; clear hK K; refine AWp_seq_k (fun K hK => ?_); apply s_region; (iterate 4 (apply s_q; decide; rfl; (simp only [go_sem]; rfl))); apply s_spec; decide; rfl; rfl; (simp only [go_sem]; rfl); (simp only [go_sem]; rfl); (simp only [go_sem]; rfl); (simp only [go_sem]; rfl); trivial; apply s_when; decide; (simp only [go_sem]; rfl); (simp only [go_sem]; rfl); (simp only [go_sem]; rfl); trivial; (intro hg; (focus (simp only [go_sem, h00, ht0, h01, ht1, List.getElem?_cons_zero, List.getElem?_cons_succ]; (try rfl); done))); (iterate 3 (apply s_spec; decide; rfl; rfl; (simp only [go_sem]; rfl); (simp only [go_sem]; rfl); (simp only [go_sem]; rfl); (simp only [go_sem]; rfl); trivial)); apply s_pick; decide; (simp only [go_sem]; rfl); (simp only [go_sem]; rfl); (simp only [go_sem]; rfl); (simp only [go_sem]; rfl); (simp only [go_sem]; rfl); (simp only [go_sem]; rfl); trivial; trivial; trivial; apply s_q; decide; rfl; (simp only [go_sem]; rfl); apply s_spec; decide; rfl; rfl; (simp only [go_sem]; rfl); (simp only [go_sem]; rfl); (simp only [go_sem]; rfl); (simp only [go_sem]; rfl); trivial; apply s_when; decide; (simp only [go_sem]; rfl); (simp only [go_sem]; rfl); (simp only [go_sem]; rfl); trivial; (intro hg; (focus (simp only [go_sem, h00, ht0, h01, ht1, List.getElem?_cons_zero, List.getElem?_cons_succ]; (try rfl); done))); (iterate 4 (apply s_spec; decide; rfl; rfl; (simp only [go_sem]; rfl); (simp only [go_sem]; rfl); (simp only [go_sem]; rfl); (simp only [go_sem]; rfl); trivial)); apply s_pick; decide; (simp only [go_sem]; rfl); (simp only [go_sem]; rfl); (simp only [go_sem]; rfl); (simp only [go_sem]; rfl); (simp only [go_sem]; rfl); (simp only [go_sem]; rfl); trivial; trivial; trivial; apply s_q; decide; rfl; (simp only [go_sem]; rfl); apply s_spec; decide; rfl; rfl; (simp only [go_sem]; rfl); (simp only [go_sem]; rfl); (simp only [go_sem]; rfl); (simp only [go_sem]; rfl); trivial; apply s_when; decide; (simp only [go_sem]; rfl); (simp only [go_sem]; rfl); (simp only [go_sem]; rfl); trivial; (intro hg; (focus (simp only [go_sem, h00, ht0, h01, ht1, List.getElem?_cons_zero, List.getElem?_cons_succ]; (try rfl); done))); (iterate 3 (apply s_spec; decide; rfl; rfl; (simp only [go_sem]; rfl); (simp only [go_sem]; rfl); (simp only [go_sem]; rfl); (simp only [go_sem]; rfl); trivial)); apply s_pick; decide; (simp only [go_sem]; rfl); (simp only [go_sem]; rfl); (simp only [go_sem]; rfl); (simp only [go_sem]; rfl); (simp only [go_sem]; rfl); (simp only [go_sem]; rfl); trivial; trivial; trivial; apply s_q; decide; rfl; (simp only [go_sem]; rfl); (iterate 2 (apply s_spec; decide; rfl; rfl; (simp only [go_sem]; rfl); (simp only [go_sem]; rfl); (simp only [go_sem]; rfl); (simp only [go_sem]; rfl); trivial)); apply s_pick; decide; (simp only [go_sem]; rfl); (simp only [go_sem]; rfl); (simp only [go_sem]; rfl); (simp only [go_sem]; rfl); (simp only [go_sem]; rfl); (simp only [go_sem]; rfl); trivial; trivial; trivial; apply s_q; decide; rfl; (simp only [go_sem]; rfl); (iterate 2 (apply s_spec; decide; rfl; rfl; (simp only [go_sem]; rfl); (simp only [go_sem]; rfl); (simp only [go_sem]; rfl); (simp only [go_sem]; rfl); trivial)); apply s_pick; decide; (simp only [go_sem]; rfl); (simp only [go_sem]; rfl); (simp only [go_sem]; rfl); (simp only [go_sem]; rfl); (simp only [go_sem]; rfl); (simp only [go_sem]; rfl); trivial; trivial; trivial; apply s_q; decide; rfl; (simp only [go_sem]; rfl); apply s_nil; simp only [AThen, ABlock]; refine hK _ _ ?_; clear hK K; apply AWp_ret)
  exact h
end Go.Proofs.Ytmloandpjbimkaa
