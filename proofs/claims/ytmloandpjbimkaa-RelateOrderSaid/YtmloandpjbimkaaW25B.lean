/-
  Events; an event's relation. Contract.
-/
import Derived.Test.YtmloandpjbimkaaRG
import Derived.Test.YtmloandpjbimkaaRP
import Derived.Test.YtmloandpjbimkaaAL4
set_option linter.unusedSimpArgs false
set_option linter.unusedVariables false
set_option maxRecDepth 100000
namespace Go.Proofs.Ytmloandpjbimkaa
open Go Go.AL
attribute [local irreducible] AOps AWp SOps AE AT ACall AApp

structure Ev where
  room : List UInt8
  type : List UInt8
  sender : List UInt8
  isState : Bool
  key : List UInt8
  content : J
  prev : List (List UInt8)
  auth : List (List UInt8)
  depth : Int
  ts : Int
  hash : List UInt8
  sigs : List (List UInt8 × List UInt8)

def sigCells (p : List UInt8 × List UInt8) : List AV := [.s p.1, .s p.2]
def Ev.cells (e : Ev) : List AV :=
  [.s e.room, .s e.type, .s e.sender, .v (.bool e.isState), .s e.key, .v (.int .i64 e.content.kind), .v (.int .i64 e.content.int), .s e.content.text, .sl false (e.content.keys.map strCells), .sl false (e.content.list.map J.cells),
    .sl false (e.prev.map strCells), .sl false (e.auth.map strCells), .v (.int .i64 e.depth), .v (.int .i64 e.ts), .s e.hash, .sl false (e.sigs.map sigCells)]
theorem snap_sigs (b sz : Nat) (es : List (List AV)) (l : List (List UInt8 × List UInt8)) : AV.snapss b sz es (l.map sigCells) = l.map sigCells := snapss_map (fun _ => rfl) l
theorem loosen_sigs (l : List (List UInt8 × List UInt8)) : AV.loosenss (l.map sigCells) = l.map sigCells := loosenss_map (fun _ => rfl) l
theorem Ev.snap (b sz : Nat) (es : List (List AV)) (e : Ev) : AV.snaps b sz es e.cells = e.cells := by
  simp only [Ev.cells, AV.snaps, AV.snap, snap_strs, J.snapss, snap_sigs]
theorem Ev.loosen (e : Ev) : AV.loosens e.cells = e.cells := by
  simp only [Ev.cells, AV.loosens, AV.loosen, loosen_strs, J.loosenss, loosen_sigs]
def ev0 : Ev := ⟨[], [], [], false, [], .mk 0 0 [] [] [], [], [], 0, 0, [], []⟩

def kRel : List UInt8 := [109, 46, 114, 101, 108, 97, 116, 101, 115, 95, 116, 111]
def kType : List UInt8 := [114, 101, 108, 95, 116, 121, 112, 101]
def kId : List UInt8 := [101, 118, 101, 110, 116, 95, 105, 100]
def kKey : List UInt8 := [107, 101, 121]
def kEdit : List UInt8 := [109, 46, 114, 101, 112, 108, 97, 99, 101]
def kThread : List UInt8 := [109, 46, 116, 104, 114, 101, 97, 100]
def kReact : List UInt8 := [109, 46, 97, 110, 110, 111, 116, 97, 116, 105, 111, 110]
/-- an event's relation: its kind, the event that it is about, its key -/
def relOf (e : Ev) : List UInt8 × List UInt8 × List UInt8 :=
  let r := undJ e.content kRel
  if e.isState = true ∨ isEv (txtJ r kId) = false then ([], [], [])
  else if txtJ r kType = kEdit ∨ txtJ r kType = kThread then (txtJ r kType, txtJ r kId, [])
  else if txtJ r kType = kReact ∧ txtJ r kKey ≠ [] then (txtJ r kType, txtJ r kId, txtJ r kKey)
  else ([], [], [])
theorem und_len {j : J} (h : j.Len) (k : List UInt8) : (undJ j k).Len := by
  have hz : (J.mk 0 0 [] [] []).Len := by rw [J.len_eq]; exact ⟨by simp [J.keys], by simp [J.list], by simp [J.list]⟩
  unfold undJ
  split
  · split
    · exact hz
    · rw [List.getD_eq_getElem?_getD]
      cases hq : j.list[(idxS k j.keys).toNat]? with
      | none => exact hz
      | some x => exact (J.len_eq.1 h).2.2 x (List.mem_of_getElem? hq)
  · exact hz
def relRes (p : List UInt8 × List UInt8 × List UInt8) : AV := .tup [.s p.1, .s p.2.1, .s p.2.2]
theorem of_c25 (e : Ev) (hl : e.content.Len) (H : AHeap) (K : AV → AHeap → Prop) (h : K (relRes (relOf e)) H) : ACall X 10 [.agg e.cells] H K := by
  refine ACall.drop ?_
  have hl0 := J.len_eq.1 hl
  obtain ⟨r, hr⟩ : ∃ r, undJ e.content kRel = r := ⟨_, rfl⟩
  have hrl := J.len_eq.1 (show r.Len from hr ▸ und_len hl kRel)
  rw [relOf, hr] at h
  have hU : ∀ (H : AHeap) (K : AV → AHeap → Prop), K (.agg [.v (.int .i64 r.kind), .v (.int .i64 r.int), .s r.text, .sl false (r.keys.map strCells), .sl false (r.list.map J.cells)]) H → ACall X 24 [.agg [.v (.int .i64 e.content.kind), .v (.int .i64 e.content.int), .s e.content.text, .sl false (e.content.keys.map strCells), .sl false (e.content.list.map J.cells)], .s kRel] H K := fun H K hk => by
    have := under_c e.content kRel ⟨hl0.1, hl0.2.1⟩ H K (by rw [hr, J.cells_eq]; exact hk)
    rwa [J.cells_eq] at this
  have hT : ∀ (k : List UInt8) (H : AHeap) (K : AV → AHeap → Prop), K (.s (txtJ r k)) H → ACall X 25 [.agg [.v (.int .i64 r.kind), .v (.int .i64 r.int), .s r.text, .sl false (r.keys.map strCells), .sl false (r.list.map J.cells)], .s k] H K := fun k H K hk => by
    have := text_c r k ⟨hrl.1, hrl.2.1⟩ H K hk
    rwa [J.cells_eq] at this
  rw [Ev.cells]
  refine ACall_intro Try.func10 rfl (by kernel_rfl) (by rw [Try.ntmps10]; simp) ?_; rw [Try.ntmps10]; simp only [frame0, Nat.reduceAdd]
  refine AWp_seq_k (fun K hK => ?_); apply s_region
  apply s_box; decide; exact (by simp only [go_sem]; try rfl); exact (by simp only [go_sem]; try rfl); intro p hp
  ((iterate 3 (apply s_q; decide; rfl; (simp only [go_sem]; rfl))); apply s_nil; simp only [AThen, ABlock]; refine hK _ _ ?_; clear hK K; refine AWp_seq_k (fun K hK => ?_); apply s_region; (iterate 2 (apply s_q; decide; rfl; (simp only [go_sem]; rfl))))
  generalize hgenq : AHeap.put p _ H = M; obtain ⟨g1, hextq⟩ := gen_ex hgenq hp; have hE := hextq; clear hextq hgenq
  (apply s_call; decide; (simp only [go_sem, g1]; rfl); (simp only [go_sem, g1]; rfl); apply hU; apply s_alloc; decide; exact zc_25; intro b hb; apply s_store; (simp only [go_sem, g1]; rfl); (simp only [go_sem, g1]; rfl); (simp only [go_sem, g1]; rfl); apply s_nil; simp only [AThen, ABlock]; refine hK _ _ ?_; clear hK K; refine AWp_seq_k (fun K hK => ?_))
  obtain ⟨q, hnewq⟩ : ∃ q, q = b := ⟨_, rfl⟩; have hq := hb; rw [← hnewq] at hq ⊢; clear hb hnewq; try clear he; clear b
  generalize hgenq : AHeap.put q _ M = M2; obtain ⟨g2, hextq⟩ := gen_ex hgenq hq; have g1 := hextq _ _ g1; have hE := Ext.trans hE hextq; clear hextq hgenq
  apply AWp_drawA [0, 1, 2, 3, 4, 5, 6, 7, 8] [] 0 (by exact mixed); kernel_rfl; (simp only [go_sem]; rfl); (simp only [go_sem]; rfl)
  (apply e_q; decide; (simp only [go_sem, g2]; rfl); apply e_call; decide; (simp only [go_sem, g2]; rfl); (simp only [go_sem, g2]; rfl); (apply hT; exact ⟨rfl, rfl⟩); apply e_q; decide; (simp only [go_sem, g2]; rfl); apply e_call; decide; (simp only [go_sem, g2]; rfl); (simp only [go_sem, g2]; rfl); (apply hT; exact ⟨rfl, rfl⟩); apply e_q; decide; (simp only [go_sem, g2]; rfl); apply e_call; decide; (simp only [go_sem, g2]; rfl); (simp only [go_sem, g2]; rfl); (apply hT; exact ⟨rfl, rfl⟩); (iterate 3 (apply e_q; decide; (simp only [go_sem, g2]; rfl))); apply e_nil; apply t_nil; simp only [AThen, ABlock]; refine hK _ _ ?_; clear hK K; (iterate 2 (refine AWp_seq_k (fun K hK => ?_))); apply s_region; apply s_q; decide; rfl; (simp only [go_sem, g2]; rfl))
  ((iterate 2 (apply s_q; decide; rfl; (simp only [go_sem, g1]; rfl))); apply s_spec; decide; rfl; rfl; (simp only [go_sem, g1]; rfl); (simp only [go_sem, g1]; rfl); (simp only [go_sem, g1]; rfl); (simp only [go_sem, g1]; rfl); trivial; apply s_gpure; decide; (simp only [go_sem, g1]; rfl); (simp only [go_sem, g1]; rfl); (simp only [go_sem, g1]; rfl); simp [condsOk]; (simp only [go_sem, g1]; rfl); (simp only [go_sem, g1]; rfl); (apply event_c; exact ⟨rfl, rfl⟩); apply s_spec; decide; rfl; rfl; (simp only [go_sem, g1]; rfl); (simp only [go_sem, g1]; rfl); (simp only [go_sem, g1]; rfl); (simp only [go_sem, g1]; rfl); simp [condsOk]; apply s_pick; decide; (simp only [go_sem, g1]; rfl); (simp only [go_sem, g1]; rfl); (simp only [go_sem, g1]; rfl); (simp only [go_sem, g1]; rfl); (simp only [go_sem, g1]; rfl); (simp only [go_sem, g1]; rfl); trivial; trivial; simp [condsOk]; apply s_nil; simp only [AThen, ABlock]; refine hK _ _ ?_; clear hK K)
  refine cond_split (by simp only [go_sem]; try rfl) (fun hc => ?_) (fun hc => ?_)
  · rw [if_pos (by
      cases h1 : e.isState with
      | true => exact .inl rfl
      | false => right; simp [h1] at hc; exact hc)] at h
    (refine AWp_seq_k (fun K hK => ?_); apply s_region; (iterate 3 (apply s_q; decide; rfl; (simp only [go_sem]; rfl))); apply s_nil; simp only [AThen, ABlock]; refine hK _ _ ?_; clear hK K; apply AWp_ret; simp only [AThen, ABlock]; apply end_ret; rfl; simp only [AFr.get, reduceIte, Nat.reduceEqDiff])
    exact ⟨H, hE, h⟩
  · rw [if_neg (by
      cases h1 : e.isState with
      | true => simp [h1] at hc
      | false => simp [h1] at hc; simp; exact hc)] at h
    (apply AWp_skip; simp only [AThen, ABlock]; refine hK _ _ ?_; clear hK K; refine AWp_seq_k (fun K hK => ?_); apply AWp_block; refine AWp_seq_k (fun K hK => ?_); apply s_region; (iterate 3 (apply s_q; decide; rfl; (simp only [go_sem]; rfl))); apply s_spec; decide; rfl; rfl; (simp only [go_sem]; rfl); (simp only [go_sem]; rfl); (simp only [go_sem]; rfl); (simp only [go_sem]; rfl); trivial; apply s_spec; decide; rfl; rfl; (simp only [go_sem]; rfl); (simp only [go_sem]; rfl); (simp only [go_sem]; rfl); (simp only [go_sem]; rfl); simp [condsOk]; apply s_pick; decide; (simp only [go_sem]; rfl); (simp only [go_sem]; rfl); (simp only [go_sem]; rfl); (simp only [go_sem]; rfl); (simp only [go_sem]; rfl); (simp only [go_sem]; rfl); trivial; trivial; simp [condsOk]; apply s_q; decide; rfl; (simp only [go_sem]; rfl); apply s_nil; simp only [AThen, ABlock]; refine hK _ _ ?_; clear hK K)
    refine cond_split (by simp only [go_sem]; try rfl) (fun hd => ?_) (fun hd => ?_)
    · rw [if_pos (by simp at hd; exact hd)] at h
      (refine AWp_seq_k (fun K hK => ?_); apply s_region; (iterate 5 (apply s_q; decide; rfl; (simp only [go_sem]; rfl))); apply s_nil; simp only [AThen, ABlock]; refine hK _ _ ?_; clear hK K; apply AWp_ret; simp only [AThen, ABlock]; apply end_ret; rfl; simp only [AFr.get, reduceIte, Nat.reduceEqDiff])
      exact ⟨H, hE, h⟩
    · rw [if_neg (by simp at hd; rintro (h1 | h1); exact hd.1 h1; exact hd.2 h1)] at h
      (refine AWp_seq_k (fun K hK => ?_); apply s_region; (iterate 3 (apply s_q; decide; rfl; (simp only [go_sem]; rfl))); apply s_spec; decide; rfl; rfl; (simp only [go_sem]; rfl); (simp only [go_sem]; rfl); (simp only [go_sem]; rfl); (simp only [go_sem]; rfl); trivial; apply s_spec; decide; rfl; rfl; (simp only [go_sem]; rfl); (simp only [go_sem]; rfl); (simp only [go_sem]; rfl); (simp only [go_sem]; rfl); simp [condsOk]; apply s_pick; decide; (simp only [go_sem]; rfl); (simp only [go_sem]; rfl); (simp only [go_sem]; rfl); (simp only [go_sem]; rfl); (simp only [go_sem]; rfl); (simp only [go_sem]; rfl); trivial; simp [condsOk]; trivial; apply s_q; decide; rfl; (simp only [go_sem]; rfl); apply s_nil; simp only [AThen, ABlock]; refine hK _ _ ?_; clear hK K)
      refine cond_split (by simp only [go_sem]; try rfl) (fun hf => ?_) (fun hf => ?_)
      · rw [if_pos (by simp at hf; exact hf)] at h
        (refine AWp_seq_k (fun K hK => ?_); apply s_region; (iterate 6 (apply s_q; decide; rfl; (simp only [go_sem]; rfl))); apply s_nil; simp only [AThen, ABlock]; refine hK _ _ ?_; clear hK K; apply AWp_ret; simp only [AThen, ABlock]; apply end_ret; rfl; simp only [AFr.get, reduceIte, Nat.reduceEqDiff])
        exact ⟨H, hE, h⟩
      · rw [if_neg (by simp at hf; rintro ⟨h1, h2⟩; exact h2 (hf h1))] at h
        (apply AWp_skip; simp only [AThen, ABlock]; refine hK _ _ ?_; clear hK K; refine AWp_seq_k (fun K hK => ?_); apply s_region; (iterate 3 (apply s_q; decide; rfl; (simp only [go_sem]; rfl))); apply s_nil; simp only [AThen, ABlock]; refine hK _ _ ?_; clear hK K; apply AWp_ret)
        exact ⟨H, hE, h⟩

theorem idxS_none_iff {k : List UInt8} {l : List (List UInt8)} (h : idxS k l < 0) : ∀ x ∈ l, x ≠ k := by
  unfold idxS at h
  split at h
  · omega
  · rename_i hn
    rw [List.findIdx?_eq_none_iff] at hn
    intro x hx; simpa using hn x hx
theorem und_get (j : J) (k : List UInt8) : undJ j k = (jGet j k).getD (.mk 0 0 [] [] []) := by
  unfold undJ jGet
  by_cases h5 : j.kind = 5
  · rw [if_pos h5, if_pos h5]
    by_cases hn : idxS k j.keys < 0
    · rw [if_pos hn]
      have hx := idxS_none_iff hn
      have : (j.keys.zip j.list).find? (fun p => decide (p.1 = k)) = none := by
        rw [List.find?_eq_none]
        intro p hp
        simpa using hx p.1 (List.of_mem_zip hp).1
      rw [this]; rfl
    · rw [if_neg hn]
      obtain ⟨i, hi, hlt, he, hb⟩ : ∃ i : Nat, idxS k j.keys = i ∧ ∃ h : i < j.keys.length, j.keys[i] = k ∧ ∀ m (hm : m < i), j.keys[m] ≠ k := by
        unfold idxS at hn ⊢
        split at hn
        · rename_i i hi
          rw [List.findIdx?_eq_some_iff_getElem] at hi
          obtain ⟨h1, h2, h3⟩ := hi
          exact ⟨i, rfl, h1, by simpa using h2, fun m hm => by simpa using h3 m hm⟩
        · omega
      rw [hi, List.getD_eq_getElem?_getD, Int.toNat_natCast]
      cases hx : j.list[i]? with
      | none =>
        have : (j.keys.zip j.list).find? (fun p => decide (p.1 = k)) = none := by
          rw [List.find?_eq_none]
          intro p hp
          obtain ⟨m, hm, hpm⟩ := List.getElem_of_mem hp
          rw [List.length_zip] at hm
          have : m < i := by have := List.getElem?_eq_none_iff.1 hx; omega
          rw [List.getElem_zip] at hpm
          subst hpm
          simpa using hb m this
        rw [this]; rfl
      | some x =>
        have hil := (List.getElem?_eq_some_iff.1 hx).1
        have : (j.keys.zip j.list).find? (fun p => decide (p.1 = k)) = some (k, x) := by
          rw [List.find?_eq_some_iff_getElem]
          refine ⟨by simp, i, by rw [List.length_zip]; omega, ?_, fun m hm => ?_⟩
          · rw [List.getElem_zip, he, (List.getElem?_eq_some_iff.1 hx).2]
          · rw [List.getElem_zip]; simpa using hb m hm
        rw [this]; rfl
  · rw [if_neg h5, if_neg h5]; rfl
theorem getRes_und (j : J) (k : List UInt8) : ∃ b : Bool, getRes (jGet j k) = .tup [.agg (undJ j k).cells, .v (.bool b)] := by
  rw [und_get]
  cases jGet j k with
  | none => exact ⟨false, rfl⟩
  | some x => exact ⟨true, rfl⟩
theorem rtext_c (j : J) (k : List UInt8) (hl : j.keys.length ≤ 4611686018427387904 ∧ j.list.length ≤ 4611686018427387904) (H : AHeap) (K : AV → AHeap → Prop) (h : K (.s (txtJ j k)) H) : ACall X 28 [.agg j.cells, .s k] H K := by
  refine ACall.drop ?_
  obtain ⟨u, hu⟩ : ∃ u, undJ j k = u := ⟨_, rfl⟩
  obtain ⟨b, hb0⟩ := getRes_und j k
  rw [hu, J.cells_eq] at hb0
  rw [txtJ, hu] at h
  have hG : ∀ (H : AHeap) (K : AV → AHeap → Prop), K (.tup [.agg [.v (.int .i64 u.kind), .v (.int .i64 u.int), .s u.text, .sl false (u.keys.map strCells), .sl false (u.list.map J.cells)], .v (.bool b)]) H → ACall X 27 [.agg j.cells, .s k] H K := fun H K hk => get_c j ⟨by omega, by omega⟩ k H K (by rw [hb0]; exact hk)
  rw [J.cells_eq] at hG
  rw [J.cells_eq]
  refine ACall_intro Try.func28 rfl (by kernel_rfl) (by rw [Try.ntmps28]; simp) ?_; rw [Try.ntmps28]; simp only [frame0, Nat.reduceAdd]
  refine AWp_seq_k (fun K hK => ?_); apply s_region
  apply s_box; decide; exact (by simp only [go_sem]; try rfl); exact (by simp only [go_sem]; try rfl); intro p hp
  (apply s_q; decide; rfl; (simp only [go_sem]; rfl); apply s_nil; simp only [AThen, ABlock]; refine hK _ _ ?_; clear hK K; refine AWp_seq_k (fun K hK => ?_); apply s_region; (iterate 2 (apply s_q; decide; rfl; (simp only [go_sem]; rfl))))
  generalize hgenq : AHeap.put p _ H = M; obtain ⟨g1, hextq⟩ := gen_ex hgenq hp; have hE := hextq; clear hextq hgenq
  (apply s_call; decide; (simp only [go_sem, g1]; rfl); (simp only [go_sem, g1]; rfl); apply hG; (iterate 3 (apply s_q; decide; rfl; (simp only [go_sem, g1]; rfl))); apply s_alloc; decide; exact zc_25; intro b hb; apply s_store; (simp only [go_sem, g1]; rfl); (simp only [go_sem, g1]; rfl); (simp only [go_sem, g1]; rfl); apply s_q; decide; rfl; (simp only [go_sem, g1]; rfl); apply s_nil; simp only [AThen, ABlock]; refine hK _ _ ?_; clear hK K; (iterate 2 (refine AWp_seq_k (fun K hK => ?_))); apply s_region; (iterate 3 (apply s_q; decide; rfl; (simp only [go_sem, g1]; rfl))); apply s_nil; simp only [AThen, ABlock]; refine hK _ _ ?_; clear hK K)
  refine cond_split (by simp only [go_sem]; try rfl) (fun hc => ?_) (fun hc => ?_)
  · rw [if_neg (by simpa using hc)] at h
    (refine AWp_seq_k (fun K hK => ?_); apply s_region; apply s_q; decide; rfl; (simp only [go_sem]; rfl); apply s_nil; simp only [AThen, ABlock]; refine hK _ _ ?_; clear hK K; apply AWp_ret; simp only [AThen, ABlock]; apply end_ret; rfl; simp only [AFr.get, reduceIte, Nat.reduceEqDiff])
    exact ⟨H, Ext.trans hE (Ext.fresh (by assumption)), h⟩
  · rw [if_pos (by simpa using hc)] at h
    (apply AWp_skip; simp only [AThen, ABlock]; refine hK _ _ ?_; clear hK K; refine AWp_seq_k (fun K hK => ?_); apply s_region; (iterate 3 (apply s_q; decide; rfl; (simp only [go_sem]; rfl))); apply s_nil; simp only [AThen, ABlock]; refine hK _ _ ?_; clear hK K; apply AWp_ret)
    exact ⟨H, Ext.trans hE (Ext.fresh (by assumption)), h⟩
theorem rof_c25 (e : Ev) (hl : e.content.Len) (H : AHeap) (K : AV → AHeap → Prop) (h : K (relRes (relOf e)) H) : ACall X 11 [.agg e.cells] H K := by
  refine ACall.drop ?_
  have hl0 := J.len_eq.1 hl
  obtain ⟨r, hr⟩ : ∃ r, undJ e.content kRel = r := ⟨_, rfl⟩
  have hrl := J.len_eq.1 (show r.Len from hr ▸ und_len hl kRel)
  rw [relOf, hr] at h
  obtain ⟨b0, hb0⟩ := getRes_und e.content kRel
  rw [hr, J.cells_eq] at hb0
  have hU : ∀ (H : AHeap) (K : AV → AHeap → Prop), K (.tup [.agg [.v (.int .i64 r.kind), .v (.int .i64 r.int), .s r.text, .sl false (r.keys.map strCells), .sl false (r.list.map J.cells)], .v (.bool b0)]) H → ACall X 27 [.agg [.v (.int .i64 e.content.kind), .v (.int .i64 e.content.int), .s e.content.text, .sl false (e.content.keys.map strCells), .sl false (e.content.list.map J.cells)], .s kRel] H K := fun H K hk => by
    have := get_c e.content ⟨by omega, by omega⟩ kRel H K (by rw [hb0]; exact hk)
    rwa [J.cells_eq] at this
  have hT : ∀ (k : List UInt8) (H : AHeap) (K : AV → AHeap → Prop), K (.s (txtJ r k)) H → ACall X 28 [.agg [.v (.int .i64 r.kind), .v (.int .i64 r.int), .s r.text, .sl false (r.keys.map strCells), .sl false (r.list.map J.cells)], .s k] H K := fun k H K hk => by
    have := rtext_c r k ⟨hrl.1, hrl.2.1⟩ H K hk
    rwa [J.cells_eq] at this
  rw [Ev.cells]
  refine ACall_intro Try.func11 rfl (by kernel_rfl) (by rw [Try.ntmps11]; simp) ?_; rw [Try.ntmps11]; simp only [frame0, Nat.reduceAdd]
  refine AWp_seq_k (fun K hK => ?_); apply s_region
  apply s_box; decide; exact (by simp only [go_sem]; try rfl); exact (by simp only [go_sem]; try rfl); intro p hp
  ((iterate 3 (apply s_q; decide; rfl; (simp only [go_sem]; rfl))); apply s_nil; simp only [AThen, ABlock]; refine hK _ _ ?_; clear hK K; refine AWp_seq_k (fun K hK => ?_); apply s_region; (iterate 2 (apply s_q; decide; rfl; (simp only [go_sem]; rfl))))
  generalize hgenq : AHeap.put p _ H = M; obtain ⟨g1, hextq⟩ := gen_ex hgenq hp; have hE := hextq; clear hextq hgenq
  (apply s_call; decide; (simp only [go_sem, g1]; rfl); (simp only [go_sem, g1]; rfl); apply hU; (iterate 3 (apply s_q; decide; rfl; (simp only [go_sem, g1]; rfl))); apply s_alloc; decide; exact zc_25; intro b hb; apply s_store; (simp only [go_sem, g1]; rfl); (simp only [go_sem, g1]; rfl); (simp only [go_sem, g1]; rfl); apply s_q; decide; rfl; (simp only [go_sem, g1]; rfl); apply s_nil; simp only [AThen, ABlock]; refine hK _ _ ?_; clear hK K; refine AWp_seq_k (fun K hK => ?_))
  obtain ⟨q, hnewq⟩ : ∃ q, q = b := ⟨_, rfl⟩; have hq := hb; rw [← hnewq] at hq ⊢; clear hb hnewq; try clear he; clear b
  generalize hgenq : AHeap.put q _ M = M2; obtain ⟨g2, hextq⟩ := gen_ex hgenq hq; have g1 := hextq _ _ g1; have hE := Ext.trans hE hextq; clear hextq hgenq
  apply AWp_drawA [0, 1, 2, 3, 4, 5, 6, 7, 8] [] 0 (by exact mixed); kernel_rfl; (simp only [go_sem]; rfl); (simp only [go_sem]; rfl)
  (apply e_q; decide; (simp only [go_sem, g2]; rfl); apply e_call; decide; (simp only [go_sem, g2]; rfl); (simp only [go_sem, g2]; rfl); (apply hT; exact ⟨rfl, rfl⟩); apply e_q; decide; (simp only [go_sem, g2]; rfl); apply e_call; decide; (simp only [go_sem, g2]; rfl); (simp only [go_sem, g2]; rfl); (apply hT; exact ⟨rfl, rfl⟩); apply e_q; decide; (simp only [go_sem, g2]; rfl); apply e_call; decide; (simp only [go_sem, g2]; rfl); (simp only [go_sem, g2]; rfl); (apply hT; exact ⟨rfl, rfl⟩); (iterate 3 (apply e_q; decide; (simp only [go_sem, g2]; rfl))); apply e_nil; apply t_nil; simp only [AThen, ABlock]; refine hK _ _ ?_; clear hK K; (iterate 2 (refine AWp_seq_k (fun K hK => ?_))); apply s_region; apply s_q; decide; rfl; (simp only [go_sem, g2]; rfl))
  ((iterate 2 (apply s_q; decide; rfl; (simp only [go_sem, g1]; rfl))); apply s_spec; decide; rfl; rfl; (simp only [go_sem, g1]; rfl); (simp only [go_sem, g1]; rfl); (simp only [go_sem, g1]; rfl); (simp only [go_sem, g1]; rfl); trivial; apply s_gpure; decide; (simp only [go_sem, g1]; rfl); (simp only [go_sem, g1]; rfl); (simp only [go_sem, g1]; rfl); simp [condsOk]; (simp only [go_sem, g1]; rfl); (simp only [go_sem, g1]; rfl); (apply event2_c; exact ⟨rfl, rfl⟩); apply s_spec; decide; rfl; rfl; (simp only [go_sem, g1]; rfl); (simp only [go_sem, g1]; rfl); (simp only [go_sem, g1]; rfl); (simp only [go_sem, g1]; rfl); simp [condsOk]; apply s_pick; decide; (simp only [go_sem, g1]; rfl); (simp only [go_sem, g1]; rfl); (simp only [go_sem, g1]; rfl); (simp only [go_sem, g1]; rfl); (simp only [go_sem, g1]; rfl); (simp only [go_sem, g1]; rfl); trivial; trivial; simp [condsOk]; apply s_nil; simp only [AThen, ABlock]; refine hK _ _ ?_; clear hK K)
  refine cond_split (by simp only [go_sem]; try rfl) (fun hc => ?_) (fun hc => ?_)
  · rw [if_pos (by
      cases h1 : e.isState with
      | true => exact .inl rfl
      | false => right; simp [h1] at hc; exact hc)] at h
    (refine AWp_seq_k (fun K hK => ?_); apply s_region; (iterate 3 (apply s_q; decide; rfl; (simp only [go_sem]; rfl))); apply s_nil; simp only [AThen, ABlock]; refine hK _ _ ?_; clear hK K; apply AWp_ret; simp only [AThen, ABlock]; apply end_ret; rfl; simp only [AFr.get, reduceIte, Nat.reduceEqDiff])
    exact ⟨H, hE, h⟩
  · rw [if_neg (by
      cases h1 : e.isState with
      | true => simp [h1] at hc
      | false => simp [h1] at hc; simp; exact hc)] at h
    (apply AWp_skip; simp only [AThen, ABlock]; refine hK _ _ ?_; clear hK K; (iterate 2 (refine AWp_seq_k (fun K hK => ?_))); apply s_region; apply s_q; decide; rfl; (simp only [go_sem]; rfl); apply s_nil; simp only [AThen, ABlock]; refine hK _ _ ?_; clear hK K; apply AWp_block; (iterate 2 (refine AWp_seq_k (fun K hK => ?_))); apply s_region; (iterate 2 (apply s_q; decide; rfl; (simp only [go_sem]; rfl))); apply s_nil; simp only [AThen, ABlock]; refine hK _ _ ?_; clear hK K)
    refine cond_split (by simp only [go_sem]; try rfl) (fun hd => ?_) (fun hd => ?_)
    · rw [if_pos (by simp at hd; exact .inl hd)] at h
      (apply AWp_skip; simp only [AThen, ABlock]; refine hK _ _ ?_; clear hK K)
      refine cond_split (by simp only [go_sem]; try rfl) (fun hd2 => ?_) (fun hd2 => ?_)
      · (refine AWp_seq_k (fun K hK => ?_); apply s_region; (iterate 5 (apply s_q; decide; rfl; (simp only [go_sem]; rfl))); apply s_nil; simp only [AThen, ABlock]; refine hK _ _ ?_; clear hK K; apply AWp_ret; simp only [AThen, ABlock]; apply end_ret; rfl; simp only [AFr.get, reduceIte, Nat.reduceEqDiff])
        exact ⟨H, hE, h⟩
      · exact absurd (hd.symm.trans hd2) (by decide)
    · (apply s_region; (iterate 2 (apply s_q; decide; rfl; (simp only [go_sem]; rfl))); apply s_nil; simp only [AThen, ABlock]; refine hK _ _ ?_; clear hK K)
      refine cond_split (by simp only [go_sem]; try rfl) (fun hd2 => ?_) (fun hd2 => ?_)
      · rw [if_pos (by simp at hd2; exact .inr hd2)] at h
        (refine AWp_seq_k (fun K hK => ?_); apply s_region; (iterate 5 (apply s_q; decide; rfl; (simp only [go_sem]; rfl))); apply s_nil; simp only [AThen, ABlock]; refine hK _ _ ?_; clear hK K; apply AWp_ret; simp only [AThen, ABlock]; apply end_ret; rfl; simp only [AFr.get, reduceIte, Nat.reduceEqDiff])
        exact ⟨H, hE, h⟩
      · rw [if_neg (by simp at hd hd2; rintro (h1 | h1); exact hd h1; exact hd2 h1)] at h
        (refine AWp_seq_k (fun K hK => ?_); apply s_region; (iterate 2 (apply s_q; decide; rfl; (simp only [go_sem]; rfl))); apply s_nil; simp only [AThen, ABlock]; refine hK _ _ ?_; clear hK K)
        refine cond_split (by simp only [go_sem]; try rfl) (fun hf => ?_) (fun hf => ?_)
        · (refine AWp_seq_k (fun K hK => ?_); apply s_region; (iterate 2 (apply s_q; decide; rfl; (simp only [go_sem]; rfl))); apply s_nil; simp only [AThen, ABlock]; refine hK _ _ ?_; clear hK K)
          refine cond_split (by simp only [go_sem]; try rfl) (fun hg => ?_) (fun hg => ?_)
          · rw [if_pos (by simp at hf hg; exact ⟨hf, hg⟩)] at h
            (refine AWp_seq_k (fun K hK => ?_); apply s_region; (iterate 6 (apply s_q; decide; rfl; (simp only [go_sem]; rfl))); apply s_nil; simp only [AThen, ABlock]; refine hK _ _ ?_; clear hK K; apply AWp_ret; simp only [AThen, ABlock]; apply end_ret; rfl; simp only [AFr.get, reduceIte, Nat.reduceEqDiff])
            exact ⟨H, hE, h⟩
          · rw [if_neg (by simp at hg; rintro ⟨h1, h2⟩; exact h2 hg)] at h
            (apply AWp_skip; simp only [AThen, ABlock]; refine hK _ _ ?_; clear hK K; refine AWp_seq_k (fun K hK => ?_); apply s_region; (iterate 3 (apply s_q; decide; rfl; (simp only [go_sem]; rfl))); apply s_nil; simp only [AThen, ABlock]; refine hK _ _ ?_; clear hK K; apply AWp_ret)
            exact ⟨H, hE, h⟩
        · rw [if_neg (by simp at hf; rintro ⟨h1, h2⟩; exact hf h1)] at h
          (apply AWp_skip; simp only [AThen, ABlock]; refine hK _ _ ?_; clear hK K; refine AWp_seq_k (fun K hK => ?_); apply s_region; (iterate 3 (apply s_q; decide; rfl; (simp only [go_sem]; rfl))); apply s_nil; simp only [AThen, ABlock]; refine hK _ _ ?_; clear hK K; apply AWp_ret)
          exact ⟨H, hE, h⟩
end Go.Proofs.Ytmloandpjbimkaa
