/-
  Levels by what one leans on, on both sides. Contracts.
-/
import Derived.Test.YtcpfgjfiacfmoaaGreatDoorGPart6
import Derived.Test.YtcpfgjfiacfmoaaGreatDoorGPart7
import Derived.Shelf.SlGeneric
import Derived.Shelf.Small.Bits
import Derived.Shelf.Sort.Plain
import Derived.Ground.Names2Prog
import Derived.Ground.NamesProg
import Derived.Shelf.Slices.CompactI
import Derived.Shelf.Slices.Cells
import Derived.Shelf.Slices.In.SortNone
import Derived.Ground.SlsfProg
import Derived.Shelf.SlSortCmp.Whole1
import Derived.Shelf.SlSortCmp.NoneTotal
import Derived.Shelf.Spec.SlicesInsert
import Derived.Shelf.Spec.SlicesInsertGrow
import Derived.Test.YtcpfgjfiacfmoaaGreatDoorProg
import Derived.Test.YtcpfgjfiacfmoaaGreatDoorGAL4
import Derived.Test.YtcpfgjfiacfmoaaGreatDoorGPart4
set_option linter.unusedSimpArgs false
set_option linter.unusedVariables false
set_option maxRecDepth 100000
namespace Go.Proofs.YtcpfgjfiacfmoaaGreatDoor
open Go Go.AL
attribute [local irreducible] AOps AWp SOps AE AT ACall AApp

abbrev lvcells (ban kick inv red st ev us : Int) (u t : AV) : List AV := [.v (.int .i64 ban), .v (.int .i64 kick), .v (.int .i64 inv), .v (.int .i64 red), .v (.int .i64 st), .v (.int .i64 ev), .v (.int .i64 us), u, t]
abbrev stCells (s : List UInt8) : List AV := lvcells 50 50 0 50 0 0 0 (.sl false [[.s s, .v (.int .i64 100)]]) (.sl false [])
theorem start_c (s : List UInt8) (H : AHeap) (K : AV → AHeap → Prop) (h : K (.agg (stCells s)) H) : ACall X 70 [.s s] H K := by
  refine ACall.drop (ACall.loose ?_)
  refine ACall_intro Tryz.func70 rfl (by kernel_rfl) (by rw [Tryz.ntmps70]; simp) ?_; rw [Tryz.ntmps70]; simp only [frame0, Nat.reduceAdd]
  (refine AWp_seq_k (fun K hK => ?_); apply s_region; apply s_alloc; decide; exact zc_58; intro b hb; apply s_nil; simp only [AThen, ABlock]; refine hK _ _ ?_; clear hK K; refine AWp_seq_k (fun K hK => ?_); apply s_region; (iterate 2 (apply s_q; decide; rfl; (simp only [go_sem, zc_levels]; rfl))); apply s_lit; decide; exact el_56; (simp only [go_sem, zc_levels]; rfl); (simp only [go_sem, zc_levels]; rfl); decide; apply s_q; decide; rfl; (simp only [go_sem, zc_levels]; rfl); apply s_store; (simp only [go_sem, zc_levels]; rfl); (simp only [go_sem, zc_levels]; rfl); (simp only [go_sem, zc_levels]; rfl); apply s_nil; simp only [AThen, ABlock]; refine hK _ _ ?_; clear hK K; apply AWp_ret)
  refine end_ret (av := .agg (lvcells 50 50 0 50 0 0 0 (.sl true [[.s s, .v (.int .i64 100)]]) (.sl true []))) (by show resAV X.P _ _ [.cell 2 58] = _; simp only [go_sem]; try rfl) ⟨H, Ext.fresh (by assumption), ?_⟩
  exact h
theorem parse_some {c : J} {L : Lv} (h : lvParse c = some L) : c.kind = 5 ∧ goodB 12 c = true := by
  unfold lvParse at h
  split at h
  · rename_i h5
    split at h
    · rename_i hg; exact ⟨h5, hg⟩
    · cases h
  · cases h
theorem names_len {j : J} (hf : J.Fit j) (k : List UInt8) : (namesR ((jGet j k).map J.ord)).length ≤ 1000000000 := by
  cases ho : jGet j k with
  | none => simp [namesR]
  | some v =>
    have hv := (fit_eq.1 ((fit_eq.1 hf).2.2.2 v (jGet_mem ho))).1
    have hl : v.ord.keys.length ≤ 1000000000 := by
      rw [ord_eq]; split
      · simp only [J.keys, List.length_map, places_len]; exact hv.1
      · simp [J.keys]
    simp only [Option.map_some, namesR, namesL, List.length_map, List.length_zip]
    omega
theorem parse_len {j : J} (hf : J.Fit j) {l : Lv} (h : lvParse j = some l) : l.Len := by
  obtain ⟨h5, hg⟩ := parse_some h
  rw [lvParse_doc h5 hg] at h
  split at h
  · cases h
    exact ⟨names_len hf _, names_len hf _⟩
  · cases h
theorem lvRes_eq (o : Option Lv) : ∃ (l : Lv) (e : Int), lvRes o = .tup [.agg l.cells, .v (.int .i64 e)] ∧ (e = 0 → o = some l) ∧ (¬ e = 0 → o = none ∧ l = lv0) := by
  cases o with
  | none => exact ⟨lv0, 1, rfl, (fun h => by omega), fun _ => ⟨rfl, rfl⟩⟩
  | some l => exact ⟨l, 0, rfl, fun _ => rfl, fun h => absurd rfl h⟩
theorem start_len (s : List UInt8) : (lvStart s).Len := by simp [lvStart, Lv.Len]
def levN (p : Pa) (i : Nat) : Int := if 0 ≤ leanI p i tPower then (match lvParse (evAt p (leanI p i tPower)).content with | none => 0 | some l => l.user (evAt p i).sender) else if 0 ≤ leanI p i tCreate then (lvStart (evAt p (leanI p i tCreate)).sender).user (evAt p i).sender else 0
def levA (p : Pa) (i : Int) : Int := if (rightB p && inR p.events.length i) = true then levN p i.toNat else 0
abbrev paCells (p : Pa) : List AV := [.sl false (p.names.map strCells), .sl false (p.events.map Ev.cells), .sl false (p.prev.map rowCells), .sl false (p.auth.map rowCells), .sl false (p.denied.map bolCells)]
abbrev jCells (j : J) : List AV := [.v (.int .i64 j.kind), .v (.int .i64 j.int), .s j.text, .sl false (j.keys.map strCells), .sl false (j.list.map J.cells)]
theorem ev_of {p : Pa} {i : Nat} {e : Ev} (h : p.events[i]? = some e) : evAt p i = e := by rw [evAt, Int.toNat_natCast]; exact getD_some h
set_option maxHeartbeats 4000000 in
theorem lev_c (p : Pa) (hw : p.Wide) (hr : p.Right) (hsm : ∀ e ∈ p.events, Sml e.content) (i : Nat) (hi : i < p.events.length) (H : AHeap) (K : AV → AHeap → Prop) (h : K (.v (.int .i64 (levN p i))) H) : ACall X 38 [.agg p.cells, .v (.int .i64 i)] H K := by
  have w2 := hw.ev
  obtain ⟨e, he⟩ := gete hi
  have hge := ev_at he
  have hev := ev_of he
  rw [levN, hev] at h
  have hF : ∀ (kind : List UInt8) (H : AHeap) (K : AV → AHeap → Prop), K (.v (.int .i64 (leanI p i kind))) H → ACall X 67 [.agg (paCells p), .v (.int .i64 i), .s kind] H K := fun kind H K hK => first_c p hw hr i hi kind H K hK
  refine ACall.drop ?_
  rw [Pa.cells]
  refine ACall_intro Tryz.func38 rfl (by kernel_rfl) (by rw [Tryz.ntmps38]; simp) ?_; rw [Tryz.ntmps38]; simp only [frame0, Nat.reduceAdd]
  refine AWp_seq_k (fun K hK => ?_); apply s_region
  apply s_box; decide; exact (by simp only [go_sem]; try rfl); exact (by simp only [go_sem]; try rfl); intro q hq
  generalize hgenq : AHeap.put q _ H = M; obtain ⟨g1, hextq⟩ := gen_ex hgenq hq; have hE := hextq; clear hextq hgenq
  (apply s_q; decide; rfl; (simp only [go_sem, g1, hge]; rfl); apply s_nil; simp only [AThen, ABlock]; refine hK _ _ ?_; clear hK K; refine AWp_seq_k (fun K hK => ?_); apply s_region; (iterate 7 (apply s_q; decide; rfl; (simp only [go_sem, g1, hge]; rfl))); apply s_nil; simp only [AThen, ABlock]; refine hK _ _ ?_; clear hK K; (iterate 2 (refine AWp_seq_k (fun K hK => ?_))); apply s_region; (iterate 2 (apply s_q; decide; rfl; (simp only [go_sem, g1, hge]; rfl))); apply s_call; decide; (simp only [go_sem, g1, hge]; rfl); (simp only [go_sem, g1, hge]; rfl); apply hF tPower; apply s_q; decide; rfl; (simp only [go_sem, g1, hge]; rfl); apply s_nil; simp only [AThen, ABlock]; refine hK _ _ ?_; clear hK K; refine AWp_seq_k (fun K hK => ?_); apply s_region; (iterate 2 (apply s_q; decide; rfl; (simp only [go_sem, g1, hge]; rfl))); apply s_nil; simp only [AThen, ABlock]; refine hK _ _ ?_; clear hK K)
  rcases leanI_lt hr (i := i) (kind := tPower) with e1 | ⟨n, e1, hn, _⟩
  · rw [e1] at h ⊢
    rw [if_neg (by decide)] at h
    refine cond_split (by simp only [go_sem]; try rfl) (fun hc => ?_) (fun hc => ?_)
    · cases hc
    (apply AWp_skip; simp only [AThen, ABlock]; refine hK _ _ ?_; clear hK K; (iterate 2 (refine AWp_seq_k (fun K hK => ?_))); apply s_region; (iterate 2 (apply s_q; decide; rfl; (simp only [go_sem, g1]; rfl))); apply s_call; decide; (simp only [go_sem, g1]; rfl); (simp only [go_sem, g1]; rfl); apply hF tCreate; apply s_q; decide; rfl; (simp only [go_sem, g1]; rfl); apply s_nil; simp only [AThen, ABlock]; refine hK _ _ ?_; clear hK K; refine AWp_seq_k (fun K hK => ?_); apply s_region; (iterate 2 (apply s_q; decide; rfl; (simp only [go_sem, g1]; rfl))); apply s_nil; simp only [AThen, ABlock]; refine hK _ _ ?_; clear hK K)
    rcases leanI_lt hr (i := i) (kind := tCreate) with e2 | ⟨m, e2, hm, _⟩
    · rw [e2] at h ⊢
      rw [if_neg (by decide)] at h
      refine cond_split (by simp only [go_sem]; try rfl) (fun hc => ?_) (fun hc => ?_)
      · cases hc
      (apply AWp_skip; simp only [AThen, ABlock]; refine hK _ _ ?_; clear hK K; refine AWp_seq_k (fun K hK => ?_); apply s_region; apply s_q; decide; rfl; (simp only [go_sem]; rfl); apply s_nil; simp only [AThen, ABlock]; refine hK _ _ ?_; clear hK K; apply AWp_ret)
      exact ⟨H, hE, h⟩
    · rw [e2] at h ⊢
      rw [if_pos (by omega)] at h
      obtain ⟨c, hcm⟩ := gete (l := p.events) (i := m) (by omega)
      have hgc := ev_at hcm
      rw [ev_of hcm] at h
      refine cond_split (by simp only [go_sem]; try rfl) (fun hc => ?_) (fun hc => ?_)
      rotate_left
      · simp at hc <;> omega
      have hU : ∀ (H : AHeap) (K : AV → AHeap → Prop), K (.v (.int .i64 ((lvStart c.sender).user e.sender))) H → ACall X 69 [.agg (stCells c.sender), .s e.sender] H K := fun H K hk => puser_c (lvStart c.sender) (start_len _) _ H K hk
      (refine AWp_seq_k (fun K hK => ?_); apply s_region; (iterate 6 (apply s_q; decide; rfl; (simp only [go_sem, g1, hgc]; rfl))); apply s_call; decide; (simp only [go_sem, g1, hgc]; rfl); (simp only [go_sem, g1, hgc]; rfl); apply start_c; apply s_q; decide; rfl; (simp only [go_sem, g1, hgc]; rfl); apply s_call; decide; (simp only [go_sem, g1, hgc]; rfl); (simp only [go_sem, g1, hgc]; rfl); apply hU; apply s_q; decide; rfl; (simp only [go_sem, g1, hgc]; rfl); apply s_nil; simp only [AThen, ABlock]; refine hK _ _ ?_; clear hK K; apply AWp_ret; simp only [AThen, ABlock]; apply end_ret; rfl; simp only [AFr.get, reduceIte, Nat.reduceEqDiff])
      exact ⟨H, hE, h⟩
  · rw [e1] at h ⊢
    rw [if_pos (by omega)] at h
    obtain ⟨c, hcm⟩ := gete (l := p.events) (i := n) (by omega)
    have hgc := ev_at hcm
    rw [ev_of hcm] at h
    have hsc := hsm c (List.mem_of_getElem? hcm)
    obtain ⟨L, er, hl1, hl2, hl3⟩ := lvRes_eq (lvParse c.content)
    have hP : ∀ (H : AHeap) (K : AV → AHeap → Prop), K (.tup [.agg L.cells, .v (.int .i64 er)]) H → ACall X 68 [.agg (jCells c.content)] H K := fun H K hk => by
      have := parse_c c.content hsc.fit hsc.short H K (by rw [hl1]; exact hk)
      rwa [J.cells_eq] at this
    refine cond_split (by simp only [go_sem]; try rfl) (fun hc => ?_) (fun hc => ?_)
    rotate_left
    · simp at hc <;> omega
    rw [Lv.cells] at hP
    (refine AWp_seq_k (fun K hK => ?_); apply s_region; (iterate 6 (apply s_q; decide; rfl; (simp only [go_sem, g1, hgc]; rfl))); apply s_call; decide; (simp only [go_sem, g1, hgc]; rfl); (simp only [go_sem, g1, hgc]; rfl); apply hP; (iterate 3 (apply s_q; decide; rfl; (simp only [go_sem, g1, hgc]; rfl))); apply s_alloc; decide; exact zc_58; intro b hb; apply s_store; (simp only [go_sem, g1, hgc]; rfl); (simp only [go_sem, g1, hgc]; rfl); (simp only [go_sem, g1, hgc]; rfl); apply s_q; decide; rfl; (simp only [go_sem, g1, hgc]; rfl); apply s_nil; simp only [AThen, ABlock]; refine hK _ _ ?_; clear hK K; (iterate 2 (refine AWp_seq_k (fun K hK => ?_))); apply s_region; (iterate 2 (apply s_q; decide; rfl; (simp only [go_sem, g1, hgc]; rfl))); apply s_nil; simp only [AThen, ABlock]; refine hK _ _ ?_; clear hK K)
    obtain ⟨lb, hnewq⟩ : ∃ q, q = b := ⟨_, rfl⟩; have hlb := hb; rw [← hnewq] at hlb ⊢; clear hb hnewq; try clear he; clear b
    generalize hgenq : AHeap.put lb _ M = M2; obtain ⟨gl, hextq⟩ := gen_ex hgenq hlb; have g1 := hextq _ _ g1; have hE := Ext.trans hE hextq; clear hextq hgenq
    skip
    refine cond_split (by simp only [go_sem]; try rfl) (fun hz => ?_) (fun hz => ?_)
    · have hz : ¬ er = 0 := by simpa using hz
      rw [(hl3 hz).1] at h
      (refine AWp_seq_k (fun K hK => ?_); apply s_region; apply s_q; decide; rfl; (simp only [go_sem]; rfl); apply s_nil; simp only [AThen, ABlock]; refine hK _ _ ?_; clear hK K; apply AWp_ret; simp only [AThen, ABlock]; apply end_ret; rfl; simp only [AFr.get, reduceIte, Nat.reduceEqDiff])
      exact ⟨H, by assumption, h⟩
    · have hz : er = 0 := by simpa using hz
      have hpl := hl2 hz
      rw [hpl] at h
      have hU : ∀ (H : AHeap) (K : AV → AHeap → Prop), K (.v (.int .i64 (L.user e.sender))) H → ACall X 69 [.agg [.v (.int .i64 L.ban), .v (.int .i64 L.kick), .v (.int .i64 L.invite), .v (.int .i64 L.redact), .v (.int .i64 L.state), .v (.int .i64 L.events), .v (.int .i64 L.users), .sl false (L.byUser.map nmCells), .sl false (L.byType.map nmCells)], .s e.sender] H K := fun H K hk => puser_c L (parse_len hsc.fit hpl) _ H K hk
      (apply AWp_skip; simp only [AThen, ABlock]; refine hK _ _ ?_; clear hK K; refine AWp_seq_k (fun K hK => ?_); apply s_region; (iterate 2 (apply s_q; decide; rfl; (simp only [go_sem, gl]; rfl))); apply s_call; decide; (simp only [go_sem, gl]; rfl); (simp only [go_sem, gl]; rfl); apply hU; apply s_q; decide; rfl; (simp only [go_sem, gl]; rfl); apply s_nil; simp only [AThen, ABlock]; refine hK _ _ ?_; clear hK K; apply AWp_ret; simp only [AThen, ABlock]; apply end_ret; rfl; simp only [AFr.get, reduceIte, Nat.reduceEqDiff])
      exact ⟨H, by assumption, h⟩
set_option maxHeartbeats 4000000 in
theorem level12_c (p : Pa) (hw : p.Wide) (hsm : ∀ e ∈ p.events, Sml e.content) (i : Int) (H : AHeap) (K : AV → AHeap → Prop) (h : K (.v (.int .i64 (levA p i))) H) : ACall X 16 [.agg p.cells, .v (.int .i64 i)] H K := by
  refine ACall.drop ?_
  have hR : ∀ (H : AHeap) (K : AV → AHeap → Prop), K (.v (.bool (rightB p))) H → ACall X 25 [.agg (paCells p)] H K := fun H K hK => right_c p hw H K hK
  have hT : ∀ (H : AHeap) (K : AV → AHeap → Prop), K (.v (.bool (inR p.events.length i))) H → ACall X 37 [.agg (paCells p), .v (.int .i64 i)] H K := fun H K hK => there_c p hw i H K hK
  rw [levA] at h
  rw [Pa.cells]
  refine ACall_intro Tryz.func16 rfl (by kernel_rfl) (by rw [Tryz.ntmps16]; simp) ?_; rw [Tryz.ntmps16]; simp only [frame0, Nat.reduceAdd]
  refine AWp_seq_k (fun K hK => ?_); apply s_region
  apply s_box; decide; exact (by simp only [go_sem]; try rfl); exact (by simp only [go_sem]; try rfl); intro q hq
  generalize hgenq : AHeap.put q _ H = M; obtain ⟨g1, hextq⟩ := gen_ex hgenq hq; have hE := hextq; clear hextq hgenq
  (apply s_q; decide; rfl; (simp only [go_sem, g1]; rfl); apply s_nil; simp only [AThen, ABlock]; refine hK _ _ ?_; clear hK K; (iterate 2 (refine AWp_seq_k (fun K hK => ?_))); apply s_region; apply s_q; decide; rfl; (simp only [go_sem, g1]; rfl); apply s_call; decide; (simp only [go_sem, g1]; rfl); (simp only [go_sem, g1]; rfl); apply hR; (iterate 2 (apply s_q; decide; rfl; (simp only [go_sem, g1]; rfl))); (iterate 2 (apply s_spec; decide; rfl; rfl; (simp only [go_sem, g1]; rfl); (simp only [go_sem, g1]; rfl); (simp only [go_sem, g1]; rfl); (simp only [go_sem, g1]; rfl); trivial)); apply s_gpure; decide; (simp only [go_sem, g1]; rfl); (simp only [go_sem, g1]; rfl); (simp only [go_sem, g1]; rfl); simp [condsOk]; (simp only [go_sem, g1]; rfl); (simp only [go_sem, g1]; rfl); (apply hT; exact ⟨rfl, rfl⟩); apply s_spec; decide; rfl; rfl; (simp only [go_sem, g1]; rfl); (simp only [go_sem, g1]; rfl); (simp only [go_sem, g1]; rfl); (simp only [go_sem, g1]; rfl); simp [condsOk]; apply s_pick; decide; (simp only [go_sem, g1]; rfl); (simp only [go_sem, g1]; rfl); (simp only [go_sem, g1]; rfl); (simp only [go_sem, g1]; rfl); (simp only [go_sem, g1]; rfl); (simp only [go_sem, g1]; rfl); trivial; trivial; simp [condsOk]; apply s_nil; simp only [AThen, ABlock]; refine hK _ _ ?_; clear hK K)
  refine cond_split (by simp only [go_sem]; try rfl) (fun hc => ?_) (fun hc => ?_)
  · rw [if_neg (by revert hc; cases rightB p <;> simp)] at h
    (refine AWp_seq_k (fun K hK => ?_); apply s_region; apply s_q; decide; rfl; (simp only [go_sem]; rfl); apply s_nil; simp only [AThen, ABlock]; refine hK _ _ ?_; clear hK K; apply AWp_ret; simp only [AThen, ABlock]; apply end_ret; rfl; simp only [AFr.get, reduceIte, Nat.reduceEqDiff])
    exact ⟨H, hE, h⟩
  · have hb : rightB p = true ∧ inR p.events.length i = true := by revert hc; cases rightB p <;> simp
    rw [hb.1, hb.2] at h
    have hin : 0 ≤ i ∧ i < p.events.length := by simpa [inR] using hb.2
    obtain ⟨n, rfl⟩ : ∃ n : Nat, i = n := ⟨i.toNat, by omega⟩
    have hL : ∀ (H : AHeap) (K : AV → AHeap → Prop), K (.v (.int .i64 (levN p n))) H → ACall X 38 [.agg (paCells p), .v (.int .i64 n)] H K := fun H K hK => lev_c p hw (right_true hb.1) hsm n (by omega) H K hK
    (apply AWp_skip; simp only [AThen, ABlock]; refine hK _ _ ?_; clear hK K; refine AWp_seq_k (fun K hK => ?_); apply s_region; (iterate 2 (apply s_q; decide; rfl; (simp only [go_sem, g1]; rfl))); apply s_call; decide; (simp only [go_sem, g1]; rfl); (simp only [go_sem, g1]; rfl); apply hL; apply s_q; decide; rfl; (simp only [go_sem, g1]; rfl); apply s_nil; simp only [AThen, ABlock]; refine hK _ _ ?_; clear hK K; apply AWp_ret)
    exact ⟨H, hE, h⟩
end Go.Proofs.YtcpfgjfiacfmoaaGreatDoor

set_option linter.unusedSimpArgs false
set_option linter.unusedVariables false
set_option maxRecDepth 100000
namespace Go.Proofs.YtcpfgjfiacfmoaaGreatDoor
open Go Go.AL
attribute [local irreducible] AOps AWp SOps AE AT ACall AApp

def idxS (k : List UInt8) (l : List (List UInt8)) : Int := match l.findIdx? (fun x => decide (x = k)) with | some i => i | none => -1
theorem idxS_at {k : List UInt8} {l : List (List UInt8)} {i : Nat} (h : l[i]? = some k) (hb : ∀ x ∈ l.take i, x ≠ k) : idxS k l = i := by
  have : l.findIdx? (fun x => decide (x = k)) = some i := by
    obtain ⟨hi, he⟩ := List.getElem?_eq_some_iff.1 h
    rw [List.findIdx?_eq_some_iff_getElem]
    refine ⟨hi, by simp [he], fun j hj => ?_⟩
    have := hb l[j] (List.mem_take_iff_getElem.2 ⟨j, by omega, rfl⟩)
    simpa using this
  rw [idxS, this]
theorem idxS_none {k : List UInt8} {l : List (List UInt8)} (hb : ∀ x ∈ l, x ≠ k) : idxS k l = -1 := by
  have : l.findIdx? (fun x => decide (x = k)) = none := by
    rw [List.findIdx?_eq_none_iff]
    intro x hx; simpa using hb x hx
  rw [idxS, this]
theorem indexS_c (t : Bool) (l : List (List UInt8)) (k : List UInt8) (hl : l.length ≤ 4611686018427387904) (H : AHeap) (K : AV → AHeap → Prop) (h : K (.v (.int .i64 (idxS k l))) H) : ACall X 65 [.sl t (l.map strCells), .s k] H K := by
  refine ACall_intro Tryz.func65 rfl (by kernel_rfl) (by rw [Tryz.ntmps65]; simp) ?_; rw [Tryz.ntmps65]; simp only [frame0, Nat.reduceAdd]
  (refine AWp_seq_k (fun K hK => ?_); apply s_region; apply s_q; decide; rfl; (simp only [go_sem]; rfl); apply s_nil; simp only [AThen, ABlock]; refine hK _ _ ?_; clear hK K; (iterate 2 (refine AWp_seq_k (fun K hK => ?_))); apply s_region; (iterate 3 (apply s_q; decide; rfl; (simp only [go_sem]; rfl))); apply s_nil; simp only [AThen, ABlock]; refine hK _ _ ?_; clear hK K; apply AWp_block)
  refine AWp_loop_s (σ := Nat) [0, 1, 7, 8] (fun i => [.sl t (l.map strCells), .s k, .v (.int .i64 l.length), .v (.int .i64 i)]) (fun _ => H) (fun i => l.length - i) (fun i => i ≤ l.length ∧ ∀ x ∈ l.take i, x ≠ k) 0 ⟨Nat.zero_le _, by simp⟩ rfl rfl (fun i hi => ?_)
  simp only [List.zip_cons_cons, List.zip_nil_right]
  (refine AWp_seq_k (fun K hK => ?_); apply s_region; apply s_q; decide; rfl; (simp only [go_sem]; rfl); apply s_nil; simp only [AThen, ABlock]; refine hK _ _ ?_; clear hK K; refine AWp_seq_k (fun K hK => ?_))
  refine cond_split (by simp only [go_sem]; try rfl) (fun hc => ?_) (fun hc => ?_)
  · have hlt : i < l.length := by simpa using hc
    obtain ⟨a, hm⟩ : ∃ a, l[i]? = some a := ⟨_, List.getElem?_eq_getElem hlt⟩
    have hg : (l.map strCells)[i]? = some [.s a] := by rw [List.getElem?_map, hm]; rfl
    (apply AWp_skip; simp only [AThen, ABlock]; refine hK _ _ ?_; clear hK K; refine AWp_seq_k (fun K hK => ?_); apply AWp_block; refine AWp_seq_k (fun K hK => ?_); apply s_region; (iterate 2 (apply s_q; decide; rfl; (simp only [go_sem, hg]; rfl))); apply s_nil; simp only [AThen, ABlock]; refine hK _ _ ?_; clear hK K; refine AWp_seq_k (fun K hK => ?_); apply s_region; (iterate 6 (apply s_q; decide; rfl; (simp only [go_sem, hg]; rfl))); apply s_nil; simp only [AThen, ABlock]; refine hK _ _ ?_; clear hK K)
    refine cond_split (by simp only [go_sem]; try rfl) (fun hd => ?_) (fun hd => ?_)
    · have hk : a = k := by simp at hd; exact hd.symm
      subst hk
      (refine AWp_seq_k (fun K hK => ?_); apply s_region; (iterate 2 (apply s_q; decide; rfl; (simp only [go_sem]; rfl))); apply s_nil; simp only [AThen, ABlock]; refine hK _ _ ?_; clear hK K; apply AWp_ret; simp only [AThen, ABlock]; apply end_ret; rfl; simp only [AFr.get, reduceIte, Nat.reduceEqDiff])
      exact finI h (idxS_at hm hi.2).symm
    · have hk : a ≠ k := fun e => by simp [e] at hd
      (apply AWp_skip; simp only [AThen, ABlock]; refine hK _ _ ?_; clear hK K; apply s_region; (iterate 2 (apply s_q; decide; rfl; (simp only [go_sem]; rfl))); apply s_nil; simp only [AThen, ABlock])
      refine ⟨i + 1, by omega, ⟨by omega, ?_⟩, ?_, by trivial⟩
      · rw [List.take_add_one, hm]
        intro x hx
        rw [List.mem_append] at hx
        rcases hx with hx | hx
        · exact hi.2 x hx
        · simp at hx; subst hx; exact hk
      · simp only [getAll, List.map_cons, List.map_nil, AFr.get]
        rw [wrapS hlt (by omega)]; rfl
  · have hge : l.length ≤ i := by simpa using hc
    (apply AWp_exit; simp only [AThen, ABlock, reduceIte, Nat.reduceEqDiff]; clear hK K; refine hK _ _ ?_; clear hK K; refine AWp_seq_k (fun K hK => ?_); apply s_region; apply s_q; decide; rfl; (simp only [go_sem]; rfl); apply s_nil; simp only [AThen, ABlock]; refine hK _ _ ?_; clear hK K; apply AWp_ret)
    exact finI h (idxS_none (fun x hx => hi.2 x (by rw [List.take_of_length_le hge]; exact hx))).symm
theorem zip_find {k : List UInt8} : ∀ (l : List (List UInt8)) (m : List J), ((l.zip m).find? fun p => decide (p.1 = k)).map (·.2) = match l.findIdx? (fun x => decide (x = k)) with | some i => m[i]? | none => none
  | [], m => by simp
  | a :: l, [] => by
    simp only [List.zip_nil_right, List.find?_nil, Option.map_none]
    split <;> simp
  | a :: l, b :: m => by
    rw [List.zip_cons_cons, List.find?_cons, List.findIdx?_cons]
    by_cases h : a = k
    · simp [h]
    · simp only [h, decide_false, Bool.false_eq_true, ite_false]
      rw [zip_find l m]
      cases l.findIdx? (fun x => decide (x = k)) <;> simp
def kMem : List UInt8 := [109, 101, 109, 98, 101, 114, 115, 104, 105, 112]
def memT (c : J) : List UInt8 := match jGet c kMem with | some v => if v.kind = 3 then v.text else [] | none => []
theorem memT_at {c : J} {i : Nat} {v : J} (hk : c.kind = 5) (h : idxS kMem c.keys = i) (hv : c.list[i]? = some v) : memT c = if v.kind = 3 then v.text else [] := by
  rw [memT, jGet, if_pos hk, zip_find]
  unfold idxS at h
  split at h
  · rename_i j hj
    obtain rfl : j = i := by omega
    simp only [hv]
  · omega
theorem memT_no {c : J} (h : ¬ (0 ≤ idxS kMem c.keys ∧ idxS kMem c.keys < c.list.length)) : memT c = [] := by
  rw [memT, jGet]
  split
  · rename_i v hv
    split at hv
    · rw [zip_find] at hv
      unfold idxS at h
      split at h
      · rename_i j hj
        rw [hj] at hv
        have := (List.getElem?_eq_some_iff.1 hv).1
        omega
      · rename_i hj
        rw [hj] at hv; cases hv
    · cases hv
  · rfl
theorem memT_kind {c : J} (h : c.kind ≠ 5) : memT c = [] := by rw [memT, jGet, if_neg h]
theorem idxS_cases (k : List UInt8) (l : List (List UInt8)) : idxS k l = -1 ∨ ∃ i : Nat, idxS k l = i := by
  unfold idxS
  split
  · exact .inr ⟨_, rfl⟩
  · exact .inl rfl
theorem finS {K : AV → AHeap → Prop} {H : AHeap} {a b : List UInt8} (h : K (.s a) H) (e : b = a) : K (.s b) H := e ▸ h
theorem mship_c (e : Ev) (hw : e.Wide) (H : AHeap) (K : AV → AHeap → Prop) (h : K (.s (memT e.content)) H) : ACall X 33 [.agg e.cells] H K := by
  obtain ⟨l1, l2, l3⟩ := J.len_eq.1 hw.1
  have hI : ∀ (H : AHeap) (K : AV → AHeap → Prop), K (.v (.int .i64 (idxS kMem e.content.keys))) H → ACall X 65 [.sl false (e.content.keys.map strCells), .s kMem] H K := fun H K hk => indexS_c false _ _ (by omega) H K hk
  refine ACall.drop ?_
  rw [Ev.cells]
  refine ACall_intro Tryz.func33 rfl (by kernel_rfl) (by rw [Tryz.ntmps33]; simp) ?_; rw [Tryz.ntmps33]; simp only [frame0, Nat.reduceAdd]
  refine AWp_seq_k (fun K hK => ?_); apply s_region
  apply s_box; decide; exact (by simp only [go_sem]; try rfl); exact (by simp only [go_sem]; try rfl); intro p hp
  generalize hgenq : AHeap.put p _ H = M; obtain ⟨g1, hextq⟩ := gen_ex hgenq hp; have hE := hextq; clear hextq hgenq
  (apply s_q; decide; rfl; (simp only [go_sem, g1]; rfl); apply s_nil; simp only [AThen, ABlock]; refine hK _ _ ?_; clear hK K; refine AWp_seq_k (fun K hK => ?_); apply s_region; (iterate 3 (apply s_q; decide; rfl; (simp only [go_sem, g1]; rfl))); apply s_call; decide; (simp only [go_sem, g1]; rfl); (simp only [go_sem, g1]; rfl); apply hI; apply s_q; decide; rfl; (simp only [go_sem, g1]; rfl); apply s_nil; simp only [AThen, ABlock]; refine hK _ _ ?_; clear hK K; (iterate 2 (refine AWp_seq_k (fun K hK => ?_))); apply s_region; (iterate 5 (apply s_q; decide; rfl; (simp only [go_sem, g1]; rfl))); apply s_spec; decide; rfl; rfl; (simp only [go_sem, g1]; rfl); (simp only [go_sem, g1]; rfl); (simp only [go_sem, g1]; rfl); (simp only [go_sem, g1]; rfl); trivial; apply s_spec; decide; rfl; rfl; (simp only [go_sem, g1]; rfl); (simp only [go_sem, g1]; rfl); (simp only [go_sem, g1]; rfl); (simp only [go_sem, g1]; rfl); simp [condsOk]; apply s_pick; decide; (simp only [go_sem, g1]; rfl); (simp only [go_sem, g1]; rfl); (simp only [go_sem, g1]; rfl); (simp only [go_sem, g1]; rfl); (simp only [go_sem, g1]; rfl); (simp only [go_sem, g1]; rfl); trivial; trivial; simp [condsOk]; apply s_q; decide; rfl; (simp only [go_sem, g1]; rfl); (iterate 2 (apply s_spec; decide; rfl; rfl; (simp only [go_sem, g1]; rfl); (simp only [go_sem, g1]; rfl); (simp only [go_sem, g1]; rfl); (simp only [go_sem, g1]; rfl); trivial)); (iterate 4 (apply s_spec; decide; rfl; rfl; (simp only [go_sem, g1]; rfl); (simp only [go_sem, g1]; rfl); (simp only [go_sem, g1]; rfl); (simp only [go_sem, g1]; rfl); simp [condsOk])); apply s_pick; decide; (simp only [go_sem, g1]; rfl); (simp only [go_sem, g1]; rfl); (simp only [go_sem, g1]; rfl); (simp only [go_sem, g1]; rfl); (simp only [go_sem, g1]; rfl); (simp only [go_sem, g1]; rfl); trivial; trivial; simp [condsOk]; apply s_q; decide; rfl; (simp only [go_sem, g1]; rfl); apply s_spec; decide; rfl; rfl; (simp only [go_sem, g1]; rfl); (simp only [go_sem, g1]; rfl); (simp only [go_sem, g1]; rfl); (simp only [go_sem, g1]; rfl); trivial; (iterate 2 (apply s_spec; decide; rfl; rfl; (simp only [go_sem, g1]; rfl); (simp only [go_sem, g1]; rfl); (simp only [go_sem, g1]; rfl); (simp only [go_sem, g1]; rfl); simp [condsOk])); apply s_spec; decide; rfl; rfl; (simp only [go_sem, g1]; rfl); (simp only [go_sem, g1]; rfl); (simp only [go_sem, g1]; rfl); (simp only [go_sem, g1]; rfl); trivial)
  by_cases hin : 0 ≤ idxS kMem e.content.keys ∧ idxS kMem e.content.keys < e.content.list.length
  · rcases idxS_cases kMem e.content.keys with hi | ⟨i, hi⟩
    · omega
    rw [hi] at hin ⊢
    obtain ⟨v, hv⟩ := gete (l := e.content.list) (i := i) (by omega)
    have hgv := eget_at hv
    (apply s_when; decide; (simp only [go_sem, g1, hgv]; rfl); (simp only [go_sem, g1, hgv]; rfl); (simp only [go_sem, g1, hgv]; rfl); simp [condsOk]; (intro hg; (focus (simp only [go_sem, g1, hgv]; (try rfl); done))); (iterate 3 (apply s_spec; decide; rfl; rfl; (simp only [go_sem, g1, hgv]; rfl); (simp only [go_sem, g1, hgv]; rfl); (simp only [go_sem, g1, hgv]; rfl); (simp only [go_sem, g1, hgv]; rfl); simp [condsOk])); apply s_pick; decide; (simp only [go_sem, g1, hgv]; rfl); (simp only [go_sem, g1, hgv]; rfl); (simp only [go_sem, g1, hgv]; rfl); (simp only [go_sem, g1, hgv]; rfl); (simp only [go_sem, g1, hgv]; rfl); (simp only [go_sem, g1, hgv]; rfl); trivial; trivial; simp [condsOk]; apply s_nil; simp only [AThen, ABlock]; refine hK _ _ ?_; clear hK K)
    refine cond_split (by simp only [go_sem]; try rfl) (fun hc => ?_) (fun hc => ?_)
    · (refine AWp_seq_k (fun K hK => ?_); apply s_region; apply s_q; decide; rfl; (simp only [go_sem]; rfl); apply s_nil; simp only [AThen, ABlock]; refine hK _ _ ?_; clear hK K; apply AWp_ret; simp only [AThen, ABlock]; apply end_ret; rfl; simp only [AFr.get, reduceIte, Nat.reduceEqDiff])
      refine ⟨H, hE, finS h ?_⟩
      by_cases hk : e.content.kind = 5
      · rw [memT_at hk hi hv, if_neg]
        intro h3
        simp [hk, h3] at hc
        omega
      · rw [memT_kind hk]
    · (apply AWp_skip; simp only [AThen, ABlock]; refine hK _ _ ?_; clear hK K; refine AWp_seq_k (fun K hK => ?_); apply s_region; (iterate 8 (apply s_q; decide; rfl; (simp only [go_sem, g1, hgv]; rfl))); apply s_nil; simp only [AThen, ABlock]; refine hK _ _ ?_; clear hK K; apply AWp_ret)
      refine ⟨H, hE, finS h ?_⟩
      have h5 : e.content.kind = 5 ∧ v.kind = 3 := by
        by_cases hk : e.content.kind = 5 <;> by_cases h3 : v.kind = 3 <;> simp_all
      rw [memT_at h5.1 hi hv, if_pos h5.2]
  · rw [memT_no hin] at h
    generalize idxS kMem e.content.keys = i at hin
    ((iterate 4 (apply s_when (av := (.v (.bool false))); decide; (simp only [go_sem, g1]; rfl); (simp only [go_sem, g1]; rfl); (simp only [go_sem, g1]; rfl); simp [condsOk]; (focus (intro hg; first | (cases hg; done) | (simp at hg; done) | (simp at hg; omega))))); apply s_pick; decide; (simp only [go_sem, g1]; rfl); (simp only [go_sem, g1]; rfl); (simp only [go_sem, g1]; rfl); (simp only [go_sem, g1]; rfl); (simp only [go_sem, g1]; rfl); (simp only [go_sem, g1]; rfl); trivial; trivial; simp [condsOk]; apply s_nil; simp only [AThen, ABlock]; refine hK _ _ ?_; clear hK K)
    refine cond_split (by simp only [go_sem]; try rfl) (fun hc => ?_) (fun hc => ?_)
    · (refine AWp_seq_k (fun K hK => ?_); apply s_region; apply s_q; decide; rfl; (simp only [go_sem]; rfl); apply s_nil; simp only [AThen, ABlock]; refine hK _ _ ?_; clear hK K; apply AWp_ret; simp only [AThen, ABlock]; apply end_ret; rfl; simp only [AFr.get, reduceIte, Nat.reduceEqDiff])
      exact ⟨H, hE, h⟩
    · exfalso
      simp at hc
      omega
set_option maxHeartbeats 1000000 in
theorem text_c (e : Ev) (hw : e.Wide) (H : AHeap) (K : AV → AHeap → Prop) (h : K (.s (memT e.content)) H) : ACall X 34 [.agg e.cells, .s kMem] H K := by
  obtain ⟨l1, l2, l3⟩ := J.len_eq.1 hw.1
  obtain ⟨x, b, hx, hb⟩ : ∃ (x : J) (b : Bool), getRes (jGet e.content kMem) = .tup [.agg x.cells, .v (.bool b)] ∧ memT e.content = if b && decide (x.kind = 3) then x.text else [] := by
    rw [memT]
    cases jGet e.content kMem with
    | none => exact ⟨.mk 0 0 [] [] [], false, rfl, rfl⟩
    | some x => exact ⟨x, true, rfl, by simp⟩
  have hG : ∀ (H : AHeap) (K : AV → AHeap → Prop), K (.tup [.agg [.v (.int .i64 x.kind), .v (.int .i64 x.int), .s x.text, .sl false (x.keys.map strCells), .sl false (x.list.map J.cells)], .v (.bool b)]) H → ACall X 66 [.agg [.v (.int .i64 e.content.kind), .v (.int .i64 e.content.int), .s e.content.text, .sl false (e.content.keys.map strCells), .sl false (e.content.list.map J.cells)], .s kMem] H K := fun H K hk => by
    have := get_c e.content ⟨by omega, by omega⟩ kMem H K (by rw [hx, J.cells_eq]; exact hk)
    rwa [J.cells_eq] at this
  rw [hb] at h
  refine ACall.drop ?_
  rw [Ev.cells]
  refine ACall_intro Tryz.func34 rfl (by kernel_rfl) (by rw [Tryz.ntmps34]; simp) ?_; rw [Tryz.ntmps34]; simp only [frame0, Nat.reduceAdd]
  refine AWp_seq_k (fun K hK => ?_); apply s_region
  apply s_box; decide; exact (by simp only [go_sem]; try rfl); exact (by simp only [go_sem]; try rfl); intro p hp
  generalize hgenq : AHeap.put p _ H = M; obtain ⟨g1, hextq⟩ := gen_ex hgenq hp; have hE := hextq; clear hextq hgenq
  (apply s_q; decide; rfl; (simp only [go_sem, g1]; rfl); apply s_nil; simp only [AThen, ABlock]; refine hK _ _ ?_; clear hK K; refine AWp_seq_k (fun K hK => ?_); apply s_region; (iterate 3 (apply s_q; decide; rfl; (simp only [go_sem, g1]; rfl))); apply s_call; decide; (simp only [go_sem, g1]; rfl); (simp only [go_sem, g1]; rfl); apply hG; (iterate 3 (apply s_q; decide; rfl; (simp only [go_sem, g1]; rfl))); apply s_alloc; decide; exact zc_25; intro b hb; apply s_store; (simp only [go_sem, g1]; rfl); (simp only [go_sem, g1]; rfl); (simp only [go_sem, g1]; rfl); apply s_q; decide; rfl; (simp only [go_sem, g1]; rfl); apply s_nil; simp only [AThen, ABlock]; refine hK _ _ ?_; clear hK K; (iterate 2 (refine AWp_seq_k (fun K hK => ?_))); apply s_region; (iterate 3 (apply s_q; decide; rfl; (simp only [go_sem, g1]; rfl))); apply s_spec; decide; rfl; rfl; (simp only [go_sem, g1]; rfl); (simp only [go_sem, g1]; rfl); (simp only [go_sem, g1]; rfl); (simp only [go_sem, g1]; rfl); trivial; (iterate 2 (apply s_spec; decide; rfl; rfl; (simp only [go_sem, g1]; rfl); (simp only [go_sem, g1]; rfl); (simp only [go_sem, g1]; rfl); (simp only [go_sem, g1]; rfl); simp [condsOk])); apply s_pick; decide; (simp only [go_sem, g1]; rfl); (simp only [go_sem, g1]; rfl); (simp only [go_sem, g1]; rfl); (simp only [go_sem, g1]; rfl); (simp only [go_sem, g1]; rfl); (simp only [go_sem, g1]; rfl); trivial; trivial; simp [condsOk]; apply s_nil; simp only [AThen, ABlock]; refine hK _ _ ?_; clear hK K)
  obtain ⟨q, hnewq⟩ : ∃ q, q = b := ⟨_, rfl⟩; have hq := hb; rw [← hnewq] at hq ⊢; clear hb hnewq; try clear he; clear b
  generalize hgenq : AHeap.put q _ M = M2; obtain ⟨g2, hextq⟩ := gen_ex hgenq hq; have g1 := hextq _ _ g1; have hE := Ext.trans hE hextq; clear hextq hgenq
  skip
  refine cond_split (by simp only [go_sem]; try rfl) (fun hc => ?_) (fun hc => ?_)
  · (refine AWp_seq_k (fun K hK => ?_); apply s_region; apply s_q; decide; rfl; (simp only [go_sem]; rfl); apply s_nil; simp only [AThen, ABlock]; refine hK _ _ ?_; clear hK K; apply AWp_ret; simp only [AThen, ABlock]; apply end_ret; rfl; simp only [AFr.get, reduceIte, Nat.reduceEqDiff])
    refine ⟨H, hE, finS h ?_⟩
    rw [if_neg]
    intro h3
    simp at h3
    simp [h3] at hc
  · (apply AWp_skip; simp only [AThen, ABlock]; refine hK _ _ ?_; clear hK K; refine AWp_seq_k (fun K hK => ?_); apply s_region; (iterate 3 (apply s_q; decide; rfl; (simp only [go_sem, g2]; rfl))); apply s_nil; simp only [AThen, ABlock]; refine hK _ _ ?_; clear hK K; apply AWp_ret)
    refine ⟨H, hE, finS h ?_⟩
    rw [if_pos]
    cases b <;> simp_all
def tMem : List UInt8 := [109, 46, 114, 111, 111, 109, 46, 109, 101, 109, 98, 101, 114]
def powB (e : Ev) : Bool := e.isState && if e.type = tMem then !decide (e.key = e.sender) && (decide (memT e.content = [108, 101, 97, 118, 101]) || decide (memT e.content = [98, 97, 110])) else decide (e.key = []) && (decide (e.type = tPower) || decide (e.type = [109, 46, 114, 111, 111, 109, 46, 106, 111, 105, 110, 95, 114, 117, 108, 101, 115]))
set_option maxHeartbeats 2000000 in
theorem powers_c (e : Ev) (hw : e.Wide) (H : AHeap) (K : AV → AHeap → Prop) (h : K (.v (.bool (powB e))) H) : ACall X 12 [.agg e.cells] H K := by
  have hM : ∀ (H : AHeap) (K : AV → AHeap → Prop), K (.s (memT e.content)) H → ACall X 33 [.agg e.cells] H K := fun H K hk => mship_c e hw H K hk
  refine ACall.drop ?_
  rw [Ev.cells] at hM ⊢
  refine ACall_intro Tryz.func12 rfl (by kernel_rfl) (by rw [Tryz.ntmps12]; simp) ?_; rw [Tryz.ntmps12]; simp only [frame0, Nat.reduceAdd]
  refine AWp_seq_k (fun K hK => ?_); apply s_region
  apply s_box; decide; exact (by simp only [go_sem]; try rfl); exact (by simp only [go_sem]; try rfl); intro p hp
  generalize hgenq : AHeap.put p _ H = M; obtain ⟨g1, hextq⟩ := gen_ex hgenq hp; have hE := hextq; clear hextq hgenq
  (apply s_q; decide; rfl; (simp only [go_sem, g1]; rfl); apply s_nil; simp only [AThen, ABlock]; refine hK _ _ ?_; clear hK K; refine AWp_seq_k (fun K hK => ?_); apply AWp_block; refine AWp_seq_k (fun K hK => ?_); apply s_region; (iterate 4 (apply s_q; decide; rfl; (simp only [go_sem, g1]; rfl))); apply s_nil; simp only [AThen, ABlock]; refine hK _ _ ?_; clear hK K)
  refine cond_split (by simp only [go_sem]; try rfl) (fun hs => ?_) (fun hs => ?_)
  · (refine AWp_seq_k (fun K hK => ?_); apply s_region; apply s_q; decide; rfl; (simp only [go_sem]; rfl); apply s_nil; simp only [AThen, ABlock]; refine hK _ _ ?_; clear hK K; apply AWp_ret; simp only [AThen, ABlock]; apply end_ret; rfl; simp only [AFr.get, reduceIte, Nat.reduceEqDiff])
    refine ⟨H, hE, finB h ?_⟩
    simp at hs
    simp [powB, hs]
  have hs : e.isState = true := by simpa using hs
  (refine AWp_seq_k (fun K hK => ?_); apply s_region; (iterate 4 (apply s_q; decide; rfl; (simp only [go_sem, g1]; rfl))); apply s_nil; simp only [AThen, ABlock]; refine hK _ _ ?_; clear hK K)
  refine cond_split (by simp only [go_sem]; try rfl) (fun ht => ?_) (fun ht => ?_)
  · have ht : e.type = tMem := by simpa [tMem] using ht
    (refine AWp_seq_k (fun K hK => ?_); apply s_region; apply s_q; decide; rfl; (simp only [go_sem, g1]; rfl); apply s_call; decide; (simp only [go_sem, g1]; rfl); (simp only [go_sem, g1]; rfl); apply hM; apply s_q; decide; rfl; (simp only [go_sem, g1]; rfl); apply s_nil; simp only [AThen, ABlock]; refine hK _ _ ?_; clear hK K; refine AWp_seq_k (fun K hK => ?_); apply s_region; (iterate 6 (apply s_q; decide; rfl; (simp only [go_sem, g1]; rfl))); apply s_spec; decide; rfl; rfl; (simp only [go_sem, g1]; rfl); (simp only [go_sem, g1]; rfl); (simp only [go_sem, g1]; rfl); (simp only [go_sem, g1]; rfl); trivial; (iterate 2 (apply s_spec; decide; rfl; rfl; (simp only [go_sem, g1]; rfl); (simp only [go_sem, g1]; rfl); (simp only [go_sem, g1]; rfl); (simp only [go_sem, g1]; rfl); simp [condsOk])); apply s_spec; decide; rfl; rfl; (simp only [go_sem, g1]; rfl); (simp only [go_sem, g1]; rfl); (simp only [go_sem, g1]; rfl); (simp only [go_sem, g1]; rfl); trivial; apply s_spec; decide; rfl; rfl; (simp only [go_sem, g1]; rfl); (simp only [go_sem, g1]; rfl); (simp only [go_sem, g1]; rfl); (simp only [go_sem, g1]; rfl); simp [condsOk]; apply s_pickg; decide; (simp only [go_sem, g1]; rfl); (simp only [go_sem, g1]; rfl); (simp only [go_sem, g1]; rfl); (simp only [go_sem, g1]; rfl); (simp only [go_sem, g1]; rfl); (simp only [go_sem, g1]; rfl); (simp only [go_sem, g1]; rfl); (simp only [go_sem, g1]; rfl); simp [condsOk]; trivial; simp [condsOk]; apply s_pick; decide; (simp only [go_sem, g1]; rfl); (simp only [go_sem, g1]; rfl); (simp only [go_sem, g1]; rfl); (simp only [go_sem, g1]; rfl); (simp only [go_sem, g1]; rfl); (simp only [go_sem, g1]; rfl); trivial; simp [condsOk]; trivial; apply s_q; decide; rfl; (simp only [go_sem, g1]; rfl); apply s_nil; simp only [AThen, ABlock]; refine hK _ _ ?_; clear hK K; apply AWp_ret; simp only [AThen, ABlock]; apply end_ret; rfl; simp only [AFr.get, reduceIte, Nat.reduceEqDiff])
    refine ⟨H, hE, finB h ?_⟩
    simp [powB, hs, ht]
  · have ht : ¬ e.type = tMem := by simpa [tMem] using ht
    (apply AWp_skip; simp only [AThen, ABlock]; refine hK _ _ ?_; clear hK K; refine AWp_seq_k (fun K hK => ?_); apply s_region; (iterate 4 (apply s_q; decide; rfl; (simp only [go_sem, g1]; rfl))); apply s_spec; decide; rfl; rfl; (simp only [go_sem, g1]; rfl); (simp only [go_sem, g1]; rfl); (simp only [go_sem, g1]; rfl); (simp only [go_sem, g1]; rfl); trivial; (iterate 3 (apply s_spec; decide; rfl; rfl; (simp only [go_sem, g1]; rfl); (simp only [go_sem, g1]; rfl); (simp only [go_sem, g1]; rfl); (simp only [go_sem, g1]; rfl); simp [condsOk])); apply s_spec; decide; rfl; rfl; (simp only [go_sem, g1]; rfl); (simp only [go_sem, g1]; rfl); (simp only [go_sem, g1]; rfl); (simp only [go_sem, g1]; rfl); trivial; (iterate 2 (apply s_spec; decide; rfl; rfl; (simp only [go_sem, g1]; rfl); (simp only [go_sem, g1]; rfl); (simp only [go_sem, g1]; rfl); (simp only [go_sem, g1]; rfl); simp [condsOk])); apply s_pickg; decide; (simp only [go_sem, g1]; rfl); (simp only [go_sem, g1]; rfl); (simp only [go_sem, g1]; rfl); (simp only [go_sem, g1]; rfl); (simp only [go_sem, g1]; rfl); (simp only [go_sem, g1]; rfl); (simp only [go_sem, g1]; rfl); (simp only [go_sem, g1]; rfl); simp [condsOk]; trivial; simp [condsOk]; apply s_pick; decide; (simp only [go_sem, g1]; rfl); (simp only [go_sem, g1]; rfl); (simp only [go_sem, g1]; rfl); (simp only [go_sem, g1]; rfl); (simp only [go_sem, g1]; rfl); (simp only [go_sem, g1]; rfl); trivial; simp [condsOk]; trivial; apply s_q; decide; rfl; (simp only [go_sem, g1]; rfl); apply s_nil; simp only [AThen, ABlock]; refine hK _ _ ?_; clear hK K; apply AWp_ret)
    refine ⟨H, hE, finB h ?_⟩
    simp only [powB, hs, if_neg ht, tPower, Bool.true_and]
    by_cases h1 : e.key = [] <;> simp [h1] <;> congr
set_option maxHeartbeats 2000000 in
theorem rpowers_c (e : Ev) (hw : e.Wide) (H : AHeap) (K : AV → AHeap → Prop) (h : K (.v (.bool (powB e))) H) : ACall X 13 [.agg e.cells] H K := by
  have hM : ∀ (H : AHeap) (K : AV → AHeap → Prop), K (.s (memT e.content)) H → ACall X 34 [.agg e.cells, .s kMem] H K := fun H K hk => text_c e hw H K hk
  refine ACall.drop ?_
  rw [Ev.cells] at hM ⊢
  refine ACall_intro Tryz.func13 rfl (by kernel_rfl) (by rw [Tryz.ntmps13]; simp) ?_; rw [Tryz.ntmps13]; simp only [frame0, Nat.reduceAdd]
  refine AWp_seq_k (fun K hK => ?_); apply s_region
  apply s_box; decide; exact (by simp only [go_sem]; try rfl); exact (by simp only [go_sem]; try rfl); intro p hp
  generalize hgenq : AHeap.put p _ H = M; obtain ⟨g1, hextq⟩ := gen_ex hgenq hp; have hE := hextq; clear hextq hgenq
  (apply s_q; decide; rfl; (simp only [go_sem, g1]; rfl); apply s_nil; simp only [AThen, ABlock]; refine hK _ _ ?_; clear hK K; (iterate 2 (refine AWp_seq_k (fun K hK => ?_))); apply s_region; (iterate 3 (apply s_q; decide; rfl; (simp only [go_sem, g1]; rfl))); apply s_nil; simp only [AThen, ABlock]; refine hK _ _ ?_; clear hK K)
  refine cond_split (by simp only [go_sem]; try rfl) (fun hs => ?_) (fun hs => ?_)
  · (refine AWp_seq_k (fun K hK => ?_); apply s_region; apply s_q; decide; rfl; (simp only [go_sem]; rfl); apply s_nil; simp only [AThen, ABlock]; refine hK _ _ ?_; clear hK K; apply AWp_ret; simp only [AThen, ABlock]; apply end_ret; rfl; simp only [AFr.get, reduceIte, Nat.reduceEqDiff])
    refine ⟨H, hE, finB h ?_⟩
    simp at hs
    simp [powB, hs]
  have hs : e.isState = true := by simpa using hs
  (apply AWp_skip; simp only [AThen, ABlock]; refine hK _ _ ?_; clear hK K; (iterate 2 (refine AWp_seq_k (fun K hK => ?_))); apply s_region; (iterate 3 (apply s_q; decide; rfl; (simp only [go_sem, g1]; rfl))); apply s_nil; simp only [AThen, ABlock]; refine hK _ _ ?_; clear hK K)
  refine cond_split (by simp only [go_sem]; try rfl) (fun ht => ?_) (fun ht => ?_)
  · have ht : e.type = tMem := by simpa [tMem] using ht
    (refine AWp_seq_k (fun K hK => ?_); apply s_region; apply s_q; decide; rfl; (simp only [go_sem, g1]; rfl); apply s_call; decide; (simp only [go_sem, g1]; rfl); (simp only [go_sem, g1]; rfl); apply hM; apply s_q; decide; rfl; (simp only [go_sem, g1]; rfl); apply s_nil; simp only [AThen, ABlock]; refine hK _ _ ?_; clear hK K; refine AWp_seq_k (fun K hK => ?_); apply s_region; (iterate 3 (apply s_q; decide; rfl; (simp only [go_sem, g1]; rfl))); apply s_spec; decide; rfl; rfl; (simp only [go_sem, g1]; rfl); (simp only [go_sem, g1]; rfl); (simp only [go_sem, g1]; rfl); (simp only [go_sem, g1]; rfl); trivial; apply s_spec; decide; rfl; rfl; (simp only [go_sem, g1]; rfl); (simp only [go_sem, g1]; rfl); (simp only [go_sem, g1]; rfl); (simp only [go_sem, g1]; rfl); simp [condsOk]; apply s_pick; decide; (simp only [go_sem, g1]; rfl); (simp only [go_sem, g1]; rfl); (simp only [go_sem, g1]; rfl); (simp only [go_sem, g1]; rfl); (simp only [go_sem, g1]; rfl); (simp only [go_sem, g1]; rfl); trivial; trivial; simp [condsOk]; apply s_q; decide; rfl; (simp only [go_sem, g1]; rfl); apply s_spec; decide; rfl; rfl; (simp only [go_sem, g1]; rfl); (simp only [go_sem, g1]; rfl); (simp only [go_sem, g1]; rfl); (simp only [go_sem, g1]; rfl); trivial; apply s_spec; decide; rfl; rfl; (simp only [go_sem, g1]; rfl); (simp only [go_sem, g1]; rfl); (simp only [go_sem, g1]; rfl); (simp only [go_sem, g1]; rfl); simp [condsOk]; apply s_spec; decide; rfl; rfl; (simp only [go_sem, g1]; rfl); (simp only [go_sem, g1]; rfl); (simp only [go_sem, g1]; rfl); (simp only [go_sem, g1]; rfl); trivial; (iterate 2 (apply s_spec; decide; rfl; rfl; (simp only [go_sem, g1]; rfl); (simp only [go_sem, g1]; rfl); (simp only [go_sem, g1]; rfl); (simp only [go_sem, g1]; rfl); simp [condsOk])); apply s_pick; decide; (simp only [go_sem, g1]; rfl); (simp only [go_sem, g1]; rfl); (simp only [go_sem, g1]; rfl); (simp only [go_sem, g1]; rfl); (simp only [go_sem, g1]; rfl); (simp only [go_sem, g1]; rfl); trivial; simp [condsOk]; trivial; apply s_q; decide; rfl; (simp only [go_sem, g1]; rfl); apply s_nil; simp only [AThen, ABlock]; refine hK _ _ ?_; clear hK K; apply AWp_ret; simp only [AThen, ABlock]; apply end_ret; rfl; simp only [AFr.get, reduceIte, Nat.reduceEqDiff])
    refine ⟨H, hE, finB h ?_⟩
    by_cases h1 : memT e.content = [108, 101, 97, 118, 101] <;> by_cases h2 : memT e.content = [98, 97, 110] <;> simp [powB, hs, ht, h1, h2]
  · have ht : ¬ e.type = tMem := by simpa [tMem] using ht
    (apply AWp_skip; simp only [AThen, ABlock]; refine hK _ _ ?_; clear hK K; refine AWp_seq_k (fun K hK => ?_); apply s_region; (iterate 4 (apply s_q; decide; rfl; (simp only [go_sem, g1]; rfl))); apply s_spec; decide; rfl; rfl; (simp only [go_sem, g1]; rfl); (simp only [go_sem, g1]; rfl); (simp only [go_sem, g1]; rfl); (simp only [go_sem, g1]; rfl); trivial; (iterate 3 (apply s_spec; decide; rfl; rfl; (simp only [go_sem, g1]; rfl); (simp only [go_sem, g1]; rfl); (simp only [go_sem, g1]; rfl); (simp only [go_sem, g1]; rfl); simp [condsOk])); apply s_spec; decide; rfl; rfl; (simp only [go_sem, g1]; rfl); (simp only [go_sem, g1]; rfl); (simp only [go_sem, g1]; rfl); (simp only [go_sem, g1]; rfl); trivial; (iterate 2 (apply s_spec; decide; rfl; rfl; (simp only [go_sem, g1]; rfl); (simp only [go_sem, g1]; rfl); (simp only [go_sem, g1]; rfl); (simp only [go_sem, g1]; rfl); simp [condsOk])); apply s_pickg; decide; (simp only [go_sem, g1]; rfl); (simp only [go_sem, g1]; rfl); (simp only [go_sem, g1]; rfl); (simp only [go_sem, g1]; rfl); (simp only [go_sem, g1]; rfl); (simp only [go_sem, g1]; rfl); (simp only [go_sem, g1]; rfl); (simp only [go_sem, g1]; rfl); simp [condsOk]; trivial; simp [condsOk]; apply s_pick; decide; (simp only [go_sem, g1]; rfl); (simp only [go_sem, g1]; rfl); (simp only [go_sem, g1]; rfl); (simp only [go_sem, g1]; rfl); (simp only [go_sem, g1]; rfl); (simp only [go_sem, g1]; rfl); trivial; simp [condsOk]; trivial; apply s_q; decide; rfl; (simp only [go_sem, g1]; rfl); apply s_nil; simp only [AThen, ABlock]; refine hK _ _ ?_; clear hK K; apply AWp_ret)
    refine ⟨H, hE, finB h ?_⟩
    simp only [powB, hs, if_neg ht, tPower, Bool.true_and]
    by_cases h1 : e.key = [] <;> simp [h1] <;> congr
end Go.Proofs.YtcpfgjfiacfmoaaGreatDoor

set_option linter.unusedSimpArgs false
set_option linter.unusedVariables false
set_option maxRecDepth 100000
namespace Go.Proofs.YtcpfgjfiacfmoaaGreatDoor
open Go Go.AL
attribute [local irreducible] AOps AWp SOps AE AT ACall AApp

set_option maxHeartbeats 4000000 in
theorem appendSeqB_c (p : Pa) (hw : p.Wide) (hr : p.Right) (i0 : Int) (q c : Nat) (hcq : c ≠ q) (hl : (lineP p i0).length ≤ 1000000) (H0 H : AHeap) (hE0 : Ext H0 H) (hq0 : H0.get q = none) (hc0 : H0.get c = none) (hq : H.get q = some (paBox p)) (hc : H.get c = some (ibox i0)) (Kc : AV → AHeap → Prop)
    (h : ∀ s L, Ext H0 L → RowAt 3 1 H0 L ((lineP p i0).map intCells) s → Kc s L) : ACall X 92 [.sl true [], .fn (.func 93) [] [ptrTo q, ptrTo c]] H Kc := by
  obtain ⟨l, hle⟩ : ∃ l, lineP p i0 = l := ⟨_, rfl⟩
  rw [hle] at hl h
  refine ACall_intro Tryz.func92 rfl (by kernel_rfl) (by rw [Tryz.ntmps92]; simp) ?_; rw [Tryz.ntmps92]; simp only [frame0, Nat.reduceAdd]
  refine AWp_seq_k (fun K hK => ?_); apply s_region
  apply s_box; decide; exact (by simp only [go_sem]; try rfl); exact (by simp only [go_sem]; try rfl); intro B hB
  have e1 := AHeap.get_put_same B (.box 38 [.sl true []]) H
  have e2 := get_fresh hq hB (x := .box 38 [.sl true []])
  have e2c := get_fresh hc hB (x := .box 38 [.sl true []])
  have e3 := hE0.put hB (ob := .box 38 [.sl true []])
  have hHB : H0.get B = none := none_of_ext hE0 hB
  have hBq : q ≠ B := by rintro rfl; rw [hq] at hB; cases hB
  have hBc : c ≠ B := by rintro rfl; rw [hc] at hB; cases hB
  generalize AHeap.put B (.box 38 [.sl true []]) H = M at e1 e2 e2c e3 ⊢
  (apply s_q; decide; rfl; (simp only [go_sem]; rfl); apply s_nil; simp only [AThen, ABlock]; refine hK _ _ ?_; clear hK K; (iterate 2 (refine AWp_seq_k (fun K hK => ?_))); apply s_region; apply s_q; decide; rfl; (simp only [go_sem]; rfl); apply s_nil; simp only [AThen, ABlock]; refine hK _ _ ?_; clear hK K; apply AWp_block)
  refine AWp_cut [2, 6] (vs := [ptrTo B, .fn (.func 93) [] [ptrTo q, ptrTo c]]) rfl ?_
  simp only [List.zip_cons_cons, List.zip_nil_right]
  apply AWp_rangeFunc; exact (by simp only [go_sem]; try rfl); intro y hy
  generalize hlo : AObj.loop 13 _ _ _ _ LoopState.ready none = lo
  have y1 := get_ne_fresh e1 hy
  have y2 := get_ne_fresh e2 hy
  have y3 := get_ne_fresh e2c hy
  have hHy : H0.get y = none := none_of_ext e3 hy
  refine iterB_c p hw hr i0 y q c (fun n L => L.get y = some lo ∧ L.get q = some (paBox p) ∧ (∃ v, L.get c = some (ibox v)) ∧ Ext H0 L ∧ ∃ sv, L.get B = some (.box 38 [sv]) ∧ RowAt 3 1 H0 L ((l.take n).map intCells) sv) _ (fun n L h => h.2.1) ?_ ?_ ?_ _ ?_ (get_fresh e2c hy)
  · rintro n L v ⟨g1, g2, ⟨v0, g3⟩, g4, sv, g5, g6⟩
    exact ⟨by rw [AHeap.get_put, if_neg (Ne.symm y3)]; exact g1, by rw [AHeap.get_put, if_neg (Ne.symm hcq)]; exact g2, ⟨v, AHeap.get_put_same _ _ _⟩, g4.over hc0, sv, by rw [AHeap.get_put, if_neg (Ne.symm hBc)]; exact g5, g6.put g3 (fun _ _ _ h => by cases h)⟩
  · rintro n x L hx ⟨g1, g2, _, g3, sv, g4, gR⟩ gc
    rw [hle] at hx
    obtain ⟨g5, g6⟩ : HeldAt 3 1 L ((l.take n).map intCells) sv ∧ (∀ b n, sv = .row b 1 n → H0.get b = none) := by
      rcases gR with ⟨rfl, h0⟩ | ⟨b, h1, rfl, h3⟩
      · exact ⟨.inl (by rw [h0]), by intro b n h; cases h⟩
      · exact ⟨.inr ⟨b, rfl, h3⟩, by intro b' n h; cases h; exact h1⟩
    rw [← hlo] at g1
    apply AYield_intro g1 rfl; decide
    simp only [putAll, List.toList_toArray]
    (apply s_region; apply s_q; (dsimp only; decide); rfl; (simp only [go_sem]; rfl); apply s_nil; simp only [AThen, ABlock])
    refine ⟨g1, ?_⟩
    generalize hlb : AObj.loop 13 _ _ _ _ LoopState.busy none = lb
    have c2 : (L.put y lb).get q = some (paBox p) := by rw [AHeap.get_put, if_neg y2]; exact g2
    have c2c : (L.put y lb).get c = some (ibox x) := by rw [AHeap.get_put, if_neg y3]; exact gc
    have c3 := g3.over (o := lb) hHy
    have c4 : (L.put y lb).get B = some (.box 38 [sv]) := by rw [AHeap.get_put, if_neg y1]; exact g4
    have c5 := g5.put g1 (fun _ _ _ h => by cases h) (o' := lb)
    have d1 := AHeap.get_put_same y lb L
    have hnl : n < l.length := (List.getElem?_eq_some_iff.1 hx).1
    generalize L.put y lb = N at c2 c2c c3 c4 c5 d1 ⊢
    have hlen1 : ∀ e ∈ ((l.take n).map intCells), e.length = 1 := fun e he => by
      obtain ⟨d, _, rfl⟩ := List.mem_map.1 he; rfl
    have hne : ∀ q o', N.get q = some o' → (∀ sz sn es, o' ≠ .row 3 sz sn es) → ∀ b, sv = .row b 1 ((l.take n).map intCells).length → q ≠ b := by
      rintro q o' hq' ho' b hb rfl
      rcases c5 with h1 | ⟨b2, h1, h2⟩
      · rw [h1] at hb; cases hb
      · rw [h1] at hb; cases hb
        rw [h2] at hq'; cases hq'
        exact ho' _ _ _ rfl
    (apply AWp_block; apply s_region; (iterate 2 (apply s_q; (dsimp only; decide); rfl; (simp only [go_sem, c4]; rfl))); apply s_lit; (dsimp only; decide); exact el_38; (simp only [go_sem, c4]; rfl); (simp only [go_sem, c4]; rfl); decide; apply s_append; (dsimp only; decide); (simp only [go_sem, c4]; rfl); (simp only [go_sem, c4]; rfl); apply AApp_push el_38 c5 hlen1 (nes := [[.v (.int .i64 x)]]) (fun M => src_sl tk_38 (fun e he => by simp at he; subst he; exact ⟨rfl, rfl⟩)) (by simp) (by simp; omega) (by simp; omega); intro nb L2 k1 k2)
    have f1 := (k2 y _ d1 (hne y _ d1 (by rw [← hlb]; intro _ _ _ h; cases h))).1
    have f2 := (k2 q _ c2 (hne q _ c2 (by intro _ _ _ h; cases h))).1
    have f2c := (k2 c _ c2c (hne c _ c2c (by intro _ _ _ h; cases h))).1
    have f6 : Ext H0 L2 := fun q o' hq' => (k2 q o' (c3 q o' hq') (by rintro b hb rfl; rw [g6 _ _ hb] at hq'; cases hq')).1
    have f8 := (k2 B _ c4 (hne B _ c4 (by intro _ _ _ h; cases h))).1
    have f10 : H0.get nb = none := by
      cases hx2 : H0.get nb with
      | none => rfl
      | some o' => exact absurd rfl (k2 nb o' (c3 nb o' hx2) (by rintro b hb rfl; rw [g6 _ _ hb] at hx2; cases hx2)).2
    have hnbB : nb ≠ B := by rintro rfl; rw [f8] at k1; cases k1
    have hnby : nb ≠ y := by rintro rfl; rw [f1] at k1; rw [← hlb] at k1; cases k1
    have hpp : ((l.take n).map intCells ++ [[.v (.int .i64 x)]]) = (l.take (n + 1)).map intCells := by rw [take_succ hx]; simp [intCells]
    have f12 : (L2.put B (.box 38 [.row nb 1 ((l.take n).map intCells ++ [[AV.v (.int .i64 x)]]).length])).get y = some lb := by rw [AHeap.get_put, if_neg (Ne.symm y1)]; exact f1
    (apply s_store; (simp only [go_sem, f8]; rfl); (simp only [go_sem, f8]; rfl); (simp only [go_sem, f8]; rfl); apply s_nil; simp only [AThen, ABlock])
    simp only [ABlock, ARound]
    refine ⟨by rw [hlb]; exact f12, .inl ⟨by trivial, ⟨?_, ?_, ⟨x, ?_⟩, ?_, .row nb 1 ((l.take n).map intCells ++ [[AV.v (.int .i64 x)]]).length, ?_, ?_⟩, ?_⟩⟩
    · rw [AHeap.get_put_same, hlo]
    · rw [AHeap.get_put, if_neg y2, AHeap.get_put, if_neg hBq]; exact f2
    · rw [AHeap.get_put, if_neg y3, AHeap.get_put, if_neg hBc]; exact f2c
    · exact (f6.over hHB).over hHy
    · rw [AHeap.get_put, if_neg y1, AHeap.get_put_same]
    · rw [hpp] at k1 ⊢
      exact .inr ⟨nb, f10, rfl, by rw [AHeap.get_put, if_neg hnby, AHeap.get_put, if_neg hnbB]; exact k1⟩
    · rw [AHeap.get_put, if_neg y3, AHeap.get_put, if_neg hBc]; exact f2c
  · rw [hle]
    rintro L ⟨g1, g2, _, g3, sv, g4, g5⟩
    refine ⟨_, .ready, none, by rw [g1, ← hlo], by simp, ?_⟩
    simp only [ABlock, AThen]
    have hlor : ∀ sz sn es, lo ≠ .row 3 sz sn es := by rw [← hlo]; intro _ _ _ h; cases h
    have q1 : (AHeap.del y L).get B = some (.box 38 [sv]) := by rw [AHeap.get_del, if_neg y1]; exact g4
    have q2 := g3.del hHy
    have q3 := g5.del g1 hlor
    rw [List.take_length] at q3
    refine hK _ _ ?_
    (refine AWp_seq_k (fun K hK => ?_); apply s_region; (iterate 2 (apply s_q; decide; rfl; (simp only [go_sem, q1]; rfl))); apply s_nil; simp only [AThen, ABlock]; refine hK _ _ ?_; clear hK K; apply AWp_ret)
    exact h sv _ q2 q3
  · exact ⟨AHeap.get_put_same _ _ _, get_fresh e2 hy, ⟨i0, get_fresh e2c hy⟩, e3.put hy, .sl true [], get_fresh e1 hy, .inl ⟨rfl, rfl⟩⟩
def lineA (p : Pa) (i : Int) : List Int := if rightB p = true then lineP p i else []
set_option maxHeartbeats 4000000 in
theorem line_c (p : Pa) (hw : p.Wide) (hn : p.events.length ≤ 1000) (i : Int) (H : AHeap) (Kc : AV → AHeap → Prop) (h : Kc (.sl false ((lineA p i).map intCells)) H) : ACall X 21 [.agg p.cells, .v (.int .i64 i)] H Kc := by
  refine ACall.gr (e := 3) (sz := 1) h ?_
  clear h
  have hR : ∀ (H : AHeap) (K : AV → AHeap → Prop), K (.v (.bool (rightB p))) H → ACall X 25 [.agg [.sl false (p.names.map strCells), .sl false (p.events.map Ev.cells), .sl false (p.prev.map rowCells), .sl false (p.auth.map rowCells), .sl false (p.denied.map bolCells)]] H K := fun H K hK => right_c p hw H K hK
  rw [Pa.cells]
  refine ACall_intro Tryz.func21 rfl (by kernel_rfl) (by rw [Tryz.ntmps21]; simp) ?_; rw [Tryz.ntmps21]; simp only [frame0, Nat.reduceAdd]
  refine AWp_seq_k (fun K hK => ?_); apply s_region
  apply s_box; decide; exact (by simp only [go_sem]; try rfl); exact (by simp only [go_sem]; try rfl); intro q hq
  generalize hgenq : AHeap.put q _ H = M; obtain ⟨g1, hextq⟩ := gen_ex hgenq hq; have hE := hextq; clear hextq hgenq
  (apply s_q; decide; rfl; (simp only [go_sem, g1]; rfl); apply s_nil; simp only [AThen, ABlock]; refine hK _ _ ?_; clear hK K; (iterate 2 (refine AWp_seq_k (fun K hK => ?_))); apply s_region; apply s_q; decide; rfl; (simp only [go_sem, g1]; rfl); apply s_call; decide; (simp only [go_sem, g1]; rfl); (simp only [go_sem, g1]; rfl); apply hR; apply s_q; decide; rfl; (simp only [go_sem, g1]; rfl); apply s_nil; simp only [AThen, ABlock]; refine hK _ _ ?_; clear hK K)
  refine cond_split (by simp only [go_sem]; try rfl) (fun hc => ?_) (fun hc => ?_)
  · have hc : rightB p = false := by simpa using hc
    (refine AWp_seq_k (fun K hK => ?_); apply s_region; apply s_q; decide; rfl; (simp only [go_sem]; rfl); apply s_nil; simp only [AThen, ABlock]; refine hK _ _ ?_; clear hK K; apply AWp_ret; simp only [AThen, ABlock]; apply end_ret; rfl; simp only [AFr.get, reduceIte, Nat.reduceEqDiff])
    rw [lineA, if_neg (by rw [hc]; decide)]
    exact ⟨M, hE, .inl ⟨rfl, rfl, rfl⟩⟩
  have hc : rightB p = true := by simpa using hc
  have hr := right_true hc
  have hlen := lineP_len (p := p) (i := i)
  have hBk : ∀ (H : AHeap) (K : AV → AHeap → Prop), (∀ q c, H.get q = none → (H.put q (paBox p)).get c = none → K (.fn (.func 93) [] [ptrTo q, ptrTo c]) ((H.put q (paBox p)).put c (ibox i))) → ACall X 57 [.agg [.sl false (p.names.map strCells), .sl false (p.events.map Ev.cells), .sl false (p.prev.map rowCells), .sl false (p.auth.map rowCells), .sl false (p.denied.map bolCells)], .v (.int .i64 i)] H K := fun H K hK => back_c p i H K hK
  (apply AWp_skip; simp only [AThen, ABlock]; refine hK _ _ ?_; clear hK K; refine AWp_seq_k (fun K hK => ?_); apply s_region; (iterate 2 (apply s_q; decide; rfl; (simp only [go_sem, g1]; rfl))); apply s_call; decide; (simp only [go_sem, g1]; rfl); (simp only [go_sem, g1]; rfl); apply hBk; intro b c hb hc2)
  have hcb : c ≠ b := by rintro rfl; rw [AHeap.get_put_same] at hc2; cases hc2
  have k1 := get_fresh (AHeap.get_put_same b (paBox p) M) hc2 (x := ibox i)
  have k2 := AHeap.get_put_same c (ibox i) (M.put b (paBox p))
  have k3 := (hE.put hb (ob := paBox p)).put hc2 (ob := ibox i)
  have hHb : H.get b = none := none_of_ext hE hb
  have hHc : H.get c = none := none_of_ext (hE.put hb (ob := paBox p)) hc2
  generalize (M.put b (paBox p)).put c (ibox i) = M2 at k1 k2 k3 ⊢
  have hC : ∀ (K : AV → AHeap → Prop), (∀ s L, Ext H L → RowAt 3 1 H L ((lineP p i).map intCells) s → K s L) → ACall X 56 [.fn (.func 93) [] [ptrTo b, ptrTo c]] M2 K := fun K hK => by
    refine ACall_intro Tryz.func56 rfl (by kernel_rfl) (by rw [Tryz.ntmps56]; simp) ?_; rw [Tryz.ntmps56]; simp only [frame0, Nat.reduceAdd]
    (refine AWp_seq_k (fun K hK => ?_); apply s_region; apply s_q; decide; rfl; (simp only [go_sem]; rfl); apply s_nil; simp only [AThen, ABlock]; refine hK _ _ ?_; clear hK K; refine AWp_seq_k (fun K hK => ?_); apply s_region; apply s_q; decide; rfl; (simp only [go_sem]; rfl); apply s_call; decide; (simp only [go_sem]; rfl); (simp only [go_sem]; rfl); apply appendSeqB_c p hw hr i b c hcb (by omega) H M2 k3 hHb hHc k1 k2; intro s L h1 h2; apply s_q; decide; rfl; (simp only [go_sem]; rfl); apply s_nil; simp only [AThen, ABlock]; refine hK _ _ ?_; clear hK K; apply AWp_ret)
    exact hK s L h1 h2
  have hfin : lineA p i = lineP p i := by rw [lineA, if_pos hc]
  (apply s_call; decide; (simp only [go_sem]; rfl); (simp only [go_sem]; rfl); apply hC; intro s L h1 h2; apply s_q; decide; rfl; (simp only [go_sem]; rfl); apply s_nil; simp only [AThen, ABlock]; refine hK _ _ ?_; clear hK K; apply AWp_ret)
  rw [hfin]
  obtain ⟨L0, h3, h4⟩ := h2.toGr h1
  exact ⟨L0, h3, h4⟩
set_option maxHeartbeats 4000000 in
theorem rline_c (p : Pa) (hw : p.Wide) (hn : p.events.length ≤ 1000) (i : Int) (H : AHeap) (Kc : AV → AHeap → Prop) (h : Kc (.sl false ((lineA p i).map intCells)) H) : ACall X 22 [.agg p.cells, .v (.int .i64 i)] H Kc := by
  refine ACall.gr (e := 3) (sz := 1) h ?_
  clear h
  have hw2 := hw.ev
  have hR : ∀ (H : AHeap) (K : AV → AHeap → Prop), K (.v (.bool (rightB p))) H → ACall X 26 [.agg [.sl false (p.names.map strCells), .sl false (p.events.map Ev.cells), .sl false (p.prev.map rowCells), .sl false (p.auth.map rowCells), .sl false (p.denied.map bolCells)]] H K := fun H K hK => rright_c p hw H K hK
  have hB : rightB p = true → inR p.events.length i = true → lineA p i = lineL p i := fun h1 h2 => by rw [lineA, if_pos h1, lineP, if_pos h2]
  rw [Pa.cells]
  refine ACall_intro Tryz.func22 rfl (by kernel_rfl) (by rw [Tryz.ntmps22]; simp) ?_; rw [Tryz.ntmps22]; simp only [frame0, Nat.reduceAdd]
  refine AWp_seq_k (fun K hK => ?_); apply s_region
  apply s_box; decide; exact (by simp only [go_sem]; try rfl); exact (by simp only [go_sem]; try rfl); intro q hq
  generalize hgenq : AHeap.put q _ H = M; obtain ⟨g1, hextq⟩ := gen_ex hgenq hq; have hE := hextq; clear hextq hgenq
  (apply s_q; decide; rfl; (simp only [go_sem, g1]; rfl); apply s_nil; simp only [AThen, ABlock]; refine hK _ _ ?_; clear hK K; (iterate 2 (refine AWp_seq_k (fun K hK => ?_))); apply s_region; apply s_q; decide; rfl; (simp only [go_sem, g1]; rfl); apply s_call; decide; (simp only [go_sem, g1]; rfl); (simp only [go_sem, g1]; rfl); apply hR; (iterate 2 (apply s_q; decide; rfl; (simp only [go_sem, g1]; rfl))); apply s_spec; decide; rfl; rfl; (simp only [go_sem, g1]; rfl); (simp only [go_sem, g1]; rfl); (simp only [go_sem, g1]; rfl); (simp only [go_sem, g1]; rfl); trivial; apply s_spec; decide; rfl; rfl; (simp only [go_sem, g1]; rfl); (simp only [go_sem, g1]; rfl); (simp only [go_sem, g1]; rfl); (simp only [go_sem, g1]; rfl); simp [condsOk]; apply s_pick; decide; (simp only [go_sem, g1]; rfl); (simp only [go_sem, g1]; rfl); (simp only [go_sem, g1]; rfl); (simp only [go_sem, g1]; rfl); (simp only [go_sem, g1]; rfl); (simp only [go_sem, g1]; rfl); trivial; trivial; simp [condsOk]; apply s_q; decide; rfl; (simp only [go_sem, g1]; rfl); (iterate 2 (apply s_spec; decide; rfl; rfl; (simp only [go_sem, g1]; rfl); (simp only [go_sem, g1]; rfl); (simp only [go_sem, g1]; rfl); (simp only [go_sem, g1]; rfl); trivial)); (iterate 3 (apply s_spec; decide; rfl; rfl; (simp only [go_sem, g1]; rfl); (simp only [go_sem, g1]; rfl); (simp only [go_sem, g1]; rfl); (simp only [go_sem, g1]; rfl); simp [condsOk])); apply s_pick; decide; (simp only [go_sem, g1]; rfl); (simp only [go_sem, g1]; rfl); (simp only [go_sem, g1]; rfl); (simp only [go_sem, g1]; rfl); (simp only [go_sem, g1]; rfl); (simp only [go_sem, g1]; rfl); trivial; trivial; simp [condsOk]; apply s_nil; simp only [AThen, ABlock]; refine hK _ _ ?_; clear hK K)
  refine cond_split (by simp only [go_sem]; try rfl) (fun hc => ?_) (fun hc => ?_)
  · have hno : lineA p i = [] := by
      rw [lineA]
      split
      · rename_i h1
        rw [lineP, if_neg]
        intro h2
        have h2 : 0 ≤ i ∧ i < p.events.length := by simpa [inR] using h2
        revert hc
        rw [h1]
        simp <;> omega
      · rfl
    (refine AWp_seq_k (fun K hK => ?_); apply s_region; apply s_q; decide; rfl; (simp only [go_sem]; rfl); apply s_nil; simp only [AThen, ABlock]; refine hK _ _ ?_; clear hK K; apply AWp_ret; simp only [AThen, ABlock]; apply end_ret; rfl; simp only [AFr.get, reduceIte, Nat.reduceEqDiff])
    rw [hno]
    exact ⟨M, hE, .inl ⟨rfl, rfl, rfl⟩⟩
  have hyes : rightB p = true ∧ 0 ≤ i ∧ i < p.events.length := by
    revert hc
    cases rightB p <;> simp
  obtain ⟨hrb, hi0, hi1⟩ := hyes
  have hr := right_true hrb
  have hfin := hB hrb (by simp [inR]; omega)
  have hF : ∀ (i : Nat), i < p.events.length → ∀ (H : AHeap) (K : AV → AHeap → Prop), K (.v (.int .i64 (leanI p i tPower))) H → ACall X 39 [.agg [.sl false (p.names.map strCells), .sl false (p.events.map Ev.cells), .sl false (p.prev.map rowCells), .sl false (p.auth.map rowCells), .sl false (p.denied.map bolCells)], .v (.int .i64 i), .s tPower] H K := fun i hi H K hK => leans_c p hw hr i hi tPower H K hK
  have hll : (lineL p i).length ≤ 1000 := by
    have := lineP_len (p := p) (i := i)
    rw [lineP, if_pos (by simp [inR]; omega)] at this
    omega
  (apply AWp_skip; simp only [AThen, ABlock]; refine hK _ _ ?_; clear hK K; refine AWp_seq_k (fun K hK => ?_); apply s_region; apply s_q; decide; rfl; (simp only [go_sem]; rfl); apply s_nil; simp only [AThen, ABlock]; refine hK _ _ ?_; clear hK K; refine AWp_seq_k (fun K hK => ?_); apply AWp_block)
  refine AWp_loop_s (σ := Nat × Int × AV × AHeap) [1, 2, 5] (fun s => [.v (.int .i64 s.2.1), ptrTo q, s.2.2.1]) (fun s => s.2.2.2) (fun s => (s.2.1 + 1).toNat)
    (fun s => (lineL p i).drop s.1 = lineL p s.2.1 ∧ s.1 ≤ (lineL p i).length ∧ -1 ≤ s.2.1 ∧ s.2.1 < p.events.length ∧
      s.2.2.2.get q = some (.box 35 [.sl false (p.names.map strCells), .sl false (p.events.map Ev.cells), .sl false (p.prev.map rowCells), .sl false (p.auth.map rowCells), .sl false (p.denied.map bolCells)]) ∧ Ext H s.2.2.2 ∧ RowAt 3 1 H s.2.2.2 (((lineL p i).take s.1).map intCells) s.2.2.1)
    (0, i, .sl true [], M) ⟨rfl, Nat.zero_le _, by simp only; omega, hi1, g1, hE, RowAt.nil _ _ _ _⟩ rfl rfl (fun s hs => ?_)
  obtain ⟨n, cur, a, L⟩ := s
  obtain ⟨hdr, hnl, hm1, hlt, gq, hEL, hRL⟩ := hs
  clear g1 hE
  simp only [List.zip_cons_cons, List.zip_nil_right] at hdr hnl hm1 hlt gq hEL hRL ⊢
  rcases Int.lt_or_le cur 0 with hneg | hpos
  · obtain rfl : cur = -1 := by omega
    rw [line_neg] at hdr
    have hfin2 : n = (lineL p i).length := by have := List.drop_eq_nil_iff.1 hdr; omega
    subst hfin2
    rw [List.take_length] at hRL
    ((iterate 2 (refine AWp_seq_k (fun K hK => ?_))); apply s_region; (iterate 2 (apply s_q; decide; rfl; (simp only [go_sem]; rfl))); apply s_nil; simp only [AThen, ABlock]; refine hK _ _ ?_; clear hK K)
    refine cond_split (by simp only [go_sem]; try rfl) (fun he => ?_) (fun he => ?_)
    · cases he
    (apply AWp_exit; simp only [AThen, ABlock, reduceIte, Nat.reduceEqDiff]; clear hK K; refine hK _ _ ?_; clear hK K; refine AWp_seq_k (fun K hK => ?_); apply s_region; (iterate 2 (apply s_q; decide; rfl; (simp only [go_sem]; rfl))); apply s_nil; simp only [AThen, ABlock]; refine hK _ _ ?_; clear hK K; apply AWp_ret)
    rw [hfin]
    obtain ⟨L0, h3, h4⟩ := hRL.toGr hEL
    exact ⟨L0, h3, h4⟩
  · obtain ⟨m, rfl⟩ : ∃ i : Nat, cur = i := ⟨cur.toNat, by omega⟩
    rw [line_step hr] at hdr
    have hx : (lineL p i)[n]? = some (m : Int) := by
      have : ((lineL p i).drop n)[0]? = some (m : Int) := by rw [hdr]; rfl
      rwa [List.getElem?_drop, Nat.add_zero] at this
    have hnl2 := (List.getElem?_eq_some_iff.1 hx).1
    ((iterate 2 (refine AWp_seq_k (fun K hK => ?_))); apply s_region; (iterate 2 (apply s_q; decide; rfl; (simp only [go_sem]; rfl))); apply s_nil; simp only [AThen, ABlock]; refine hK _ _ ?_; clear hK K)
    refine cond_split (by simp only [go_sem]; try rfl) (fun he => ?_) (fun he => ?_)
    rotate_left
    · simp at he <;> omega
    (apply AWp_skip; simp only [AThen, ABlock]; refine hK _ _ ?_; clear hK K; apply AWp_block; refine AWp_seq_k (fun K hK => ?_); apply s_region; (iterate 2 (apply s_q; decide; rfl; (simp only [go_sem]; rfl))); apply s_lit; decide; exact el_38; (simp only [go_sem]; rfl); (simp only [go_sem]; rfl); decide; apply s_append; decide; (simp only [go_sem]; rfl); (simp only [go_sem]; rfl); apply AApp_at el_38 hEL hRL (l := (lineL p i).take n) (m := [(m : Int)]) (g := intCells) rfl rfl tk_38 int_one (by simp; omega) (by simp; omega); intro a2 L4 b1 b2 b3; apply s_q; decide; rfl; (simp only [go_sem]; rfl); apply s_nil; simp only [AThen, ABlock]; refine hK _ _ ?_; clear hK K; apply s_region)
    have gq4 := b3 _ _ gq (fun _ _ _ h => by cases h)
    rw [← take_succ hx] at b1
    ((iterate 2 (apply s_q; decide; rfl; (simp only [go_sem, gq4]; rfl))); apply s_call; decide; (simp only [go_sem, gq4]; rfl); (simp only [go_sem, gq4]; rfl); apply hF m (by omega); apply s_q; decide; rfl; (simp only [go_sem, gq4]; rfl); apply s_nil; simp only [AThen, ABlock])
    refine ⟨(n + 1, leanI p m tPower, a2, L4), ?_, ⟨?_, by simp only; omega, ?_, ?_, gq4, b2, b1⟩, by trivial, by trivial⟩
    · simp only
      rcases leanI_lt hr (i := m) (kind := tPower) with e | ⟨k, e, h3, _⟩ <;> rw [e] <;> omega
    · simp only
      rw [← List.drop_drop, hdr]; rfl
    · simp only
      rcases leanI_lt hr (i := m) (kind := tPower) with e | ⟨k, e, h3, _⟩ <;> rw [e] <;> omega
    · simp only
      rcases leanI_lt hr (i := m) (kind := tPower) with e | ⟨k, e, h3, _⟩ <;> rw [e] <;> omega
theorem atI_mem {n : Int} {l : List Int} : 0 ≤ atI n l ↔ n ∈ l := by
  rw [atI]
  cases h : l.findIdx? (fun x => decide (x = n)) with
  | none =>
    rw [List.findIdx?_eq_none_iff] at h
    simp only
    constructor
    · intro h; omega
    · intro hm; have := h n hm; simp at this
  | some i =>
    rw [List.findIdx?_eq_some_iff_getElem] at h
    obtain ⟨hi, h1, _⟩ := h
    have h1 : l[i] = n := by simpa using h1
    simp only
    exact ⟨fun _ => h1 ▸ List.getElem_mem hi, fun _ => by omega⟩
def nearA (p : Pa) (line : List Int) (i : Int) : Int := match (lineA p i).find? (fun k => decide (k ∈ line)) with | some k => atI k line | none => line.length
theorem lineA_len {p : Pa} {i : Int} : (lineA p i).length ≤ p.events.length := by
  rw [lineA]; split
  · exact lineP_len
  · simp
set_option maxHeartbeats 4000000 in
theorem rnear_c (p : Pa) (hw : p.Wide) (hn : p.events.length ≤ 1000) (t : Bool) (line : List Int) (hl : line.length ≤ 1000) (i : Int) (H : AHeap) (Kc : AV → AHeap → Prop) (h : Kc (.v (.int .i64 (nearA p line i))) H) : ACall X 24 [.agg p.cells, .sl t (line.map intCells), .v (.int .i64 i)] H Kc := by
  refine ACall.drop ?_
  have hL : ∀ (H : AHeap) (K : AV → AHeap → Prop), K (.sl false ((lineA p i).map intCells)) H → ACall X 22 [.agg [.sl false (p.names.map strCells), .sl false (p.events.map Ev.cells), .sl false (p.prev.map rowCells), .sl false (p.auth.map rowCells), .sl false (p.denied.map bolCells)], .v (.int .i64 i)] H K := fun H K hK => rline_c p hw hn i H K hK
  have hll := lineA_len (p := p) (i := i)
  rw [nearA] at h
  rw [Pa.cells]
  refine ACall_intro Tryz.func24 rfl (by kernel_rfl) (by rw [Tryz.ntmps24]; simp) ?_; rw [Tryz.ntmps24]; simp only [frame0, Nat.reduceAdd]
  refine AWp_seq_k (fun K hK => ?_); apply s_region
  apply s_box; decide; exact (by simp only [go_sem]; try rfl); exact (by simp only [go_sem]; try rfl); intro q hq
  generalize hgenq : AHeap.put q _ H = M; obtain ⟨g1, hextq⟩ := gen_ex hgenq hq; have hE := hextq; clear hextq hgenq
  (apply s_q; decide; rfl; (simp only [go_sem, g1]; rfl); apply s_nil; simp only [AThen, ABlock]; refine hK _ _ ?_; clear hK K; refine AWp_seq_k (fun K hK => ?_); apply s_region; (iterate 2 (apply s_q; decide; rfl; (simp only [go_sem, g1]; rfl))); apply s_call; decide; (simp only [go_sem, g1]; rfl); (simp only [go_sem, g1]; rfl); apply hL; apply s_q; decide; rfl; (simp only [go_sem, g1]; rfl); apply s_nil; simp only [AThen, ABlock]; refine hK _ _ ?_; clear hK K; (iterate 2 (refine AWp_seq_k (fun K hK => ?_))); apply s_region; apply s_q; decide; rfl; (simp only [go_sem, g1]; rfl); apply s_nil; simp only [AThen, ABlock]; refine hK _ _ ?_; clear hK K; apply AWp_block)
  generalize lineA p i = l at h hll ⊢
  refine AWp_loop_s (σ := Nat) [1, 7, 8] (fun k => [.sl t (line.map intCells), .sl false (l.map intCells), .v (.int .i64 (k : Int))]) (fun _ => M) (fun k => l.length - k) (fun k => k ≤ l.length ∧ ∀ x ∈ l.take k, decide (x ∈ line) = false) 0 ⟨Nat.zero_le _, by simp⟩ rfl rfl (fun k hk => ?_)
  simp only [List.zip_cons_cons, List.zip_nil_right]
  ((iterate 2 (refine AWp_seq_k (fun K hK => ?_))); apply s_region; (iterate 4 (apply s_q; decide; rfl; (simp only [go_sem]; rfl))); apply s_nil; simp only [AThen, ABlock]; refine hK _ _ ?_; clear hK K)
  refine cond_split (by simp only [go_sem]; try rfl) (fun hd => ?_) (fun hd => ?_)
  · have hkl : k < l.length := by simpa using hd
    obtain ⟨x, hx⟩ := gete hkl
    have hgx := int_at hx
    (apply AWp_skip; simp only [AThen, ABlock]; refine hK _ _ ?_; clear hK K; refine AWp_seq_k (fun K hK => ?_); apply AWp_block; refine AWp_seq_k (fun K hK => ?_); apply s_region; apply s_q; decide; rfl; (simp only [go_sem]; rfl); apply s_nil; simp only [AThen, ABlock]; refine hK _ _ ?_; clear hK K; apply AWp_block)
    refine AWp_loop_s (σ := Nat) [1, 7, 8, 9] (fun n => [.sl t (line.map intCells), .sl false (l.map intCells), .v (.int .i64 (k : Int)), .v (.int .i64 (n : Int))]) (fun _ => M) (fun n => line.length - n) (fun n => n ≤ line.length ∧ ∀ y ∈ line.take n, y ≠ x) 0 ⟨Nat.zero_le _, by simp⟩ rfl rfl (fun n hn2 => ?_)
    simp only [List.zip_cons_cons, List.zip_nil_right]
    ((iterate 2 (refine AWp_seq_k (fun K hK => ?_))); apply s_region; (iterate 4 (apply s_q; decide; rfl; (simp only [go_sem]; rfl))); apply s_nil; simp only [AThen, ABlock]; refine hK _ _ ?_; clear hK K)
    refine cond_split (by simp only [go_sem]; try rfl) (fun he => ?_) (fun he => ?_)
    · have hnl : n < line.length := by simpa using he
      obtain ⟨y, hy⟩ := gete hnl
      have hgy := int_at hy
      (apply AWp_skip; simp only [AThen, ABlock]; refine hK _ _ ?_; clear hK K; refine AWp_seq_k (fun K hK => ?_); apply AWp_block; refine AWp_seq_k (fun K hK => ?_))
      apply AWp_drawA [0, 1, 2, 3, 4, 5, 6, 7, 8] [] 0 (by exact mixed); kernel_rfl; (simp only [go_sem]; rfl); (simp only [go_sem]; rfl)
      ((iterate 9 (apply e_q; decide; (simp only [go_sem, hgx, hgy]; rfl))); apply e_nil; apply t_nil; simp only [AThen, ABlock]; refine hK _ _ ?_; clear hK K)
      refine cond_split (by simp only [go_sem]; try rfl) (fun hz => ?_) (fun hz => ?_)
      · have hz : y = x := by simpa using hz
        rw [find_first hx hk.2 (by simp only [decide_eq_true_eq]; rw [← hz]; exact List.mem_of_getElem? hy)] at h
        (refine AWp_seq_k (fun K hK => ?_); apply s_region; (iterate 2 (apply s_q; decide; rfl; (simp only [go_sem]; rfl))); apply s_nil; simp only [AThen, ABlock]; refine hK _ _ ?_; clear hK K; apply AWp_ret; simp only [AThen, ABlock]; apply end_ret; rfl; simp only [AFr.get, reduceIte, Nat.reduceEqDiff])
        have e1 := atI_take hy hn2.2 hz
        exact ⟨H, hE, finI h e1.symm⟩
      · have hz : y ≠ x := by simpa using hz
        (apply AWp_skip; simp only [AThen, ABlock]; refine hK _ _ ?_; clear hK K; apply s_region; (iterate 3 (apply s_q; decide; rfl; (simp only [go_sem]; rfl))); apply s_nil; simp only [AThen, ABlock])
        refine ⟨n + 1, by omega, ⟨by omega, fun w hw3 => ?_⟩, ?_, by trivial⟩
        · rcases take_mem_succ hy hw3 with h1 | rfl
          · exact hn2.2 w h1
          · exact hz
        · simp only [getAll, List.map_cons, List.map_nil, AFr.get, reduceIte, Nat.reduceEqDiff]
          rw [wrapS hnl (by omega)]; try rfl
    · have hge : line.length ≤ n := by simpa using he
      have hnot : decide (x ∈ line) = false := by
        rw [decide_eq_false_iff_not]
        intro hm
        exact hn2.2 x (by rw [List.take_of_length_le hge]; exact hm) rfl
      (apply AWp_exit; simp only [AThen, ABlock, reduceIte, Nat.reduceEqDiff]; clear hK K; refine hK _ _ ?_; clear hK K; apply s_region; (iterate 3 (apply s_q; decide; rfl; (simp only [go_sem]; rfl))); apply s_nil; simp only [AThen, ABlock])
      refine ⟨k + 1, by omega, ⟨by omega, fun w hw3 => ?_⟩, ?_, by trivial⟩
      · rcases take_mem_succ hx hw3 with h1 | rfl
        · exact hk.2 w h1
        · exact hnot
      · simp only [getAll, List.map_cons, List.map_nil, AFr.get, reduceIte, Nat.reduceEqDiff]
        rw [wrapS hkl (by omega)]; try rfl
  · have hge : l.length ≤ k := by simpa using hd
    have hno := hk.2
    rw [List.take_of_length_le hge] at hno
    rw [find_none hno] at h
    (apply AWp_exit; simp only [AThen, ABlock, reduceIte, Nat.reduceEqDiff]; clear hK K; refine hK _ _ ?_; clear hK K; refine AWp_seq_k (fun K hK => ?_); apply s_region; (iterate 3 (apply s_q; decide; rfl; (simp only [go_sem]; rfl))); apply s_nil; simp only [AThen, ABlock]; refine hK _ _ ?_; clear hK K; apply AWp_ret)
    exact ⟨H, hE, h⟩
set_option maxHeartbeats 4000000 in
theorem near_c (p : Pa) (hw : p.Wide) (hn : p.events.length ≤ 1000) (t : Bool) (line : List Int) (hl : line.length ≤ 1000) (i : Int) (H : AHeap) (Kc : AV → AHeap → Prop) (h : Kc (.v (.int .i64 (nearA p line i))) H) : ACall X 23 [.agg p.cells, .sl t (line.map intCells), .v (.int .i64 i)] H Kc := by
  refine ACall.drop ?_
  have hR : ∀ (H : AHeap) (K : AV → AHeap → Prop), K (.v (.bool (rightB p))) H → ACall X 25 [.agg [.sl false (p.names.map strCells), .sl false (p.events.map Ev.cells), .sl false (p.prev.map rowCells), .sl false (p.auth.map rowCells), .sl false (p.denied.map bolCells)]] H K := fun H K hK => right_c p hw H K hK
  have hBk : ∀ (H : AHeap) (K : AV → AHeap → Prop), (∀ q c, H.get q = none → (H.put q (paBox p)).get c = none → K (.fn (.func 93) [] [ptrTo q, ptrTo c]) ((H.put q (paBox p)).put c (ibox i))) → ACall X 57 [.agg [.sl false (p.names.map strCells), .sl false (p.events.map Ev.cells), .sl false (p.prev.map rowCells), .sl false (p.auth.map rowCells), .sl false (p.denied.map bolCells)], .v (.int .i64 i)] H K := fun H K hK => back_c p i H K hK
  rw [nearA] at h
  rw [Pa.cells]
  refine ACall_intro Tryz.func23 rfl (by kernel_rfl) (by rw [Tryz.ntmps23]; simp) ?_; rw [Tryz.ntmps23]; simp only [frame0, Nat.reduceAdd]
  refine AWp_seq_k (fun K hK => ?_); apply s_region
  apply s_box; decide; exact (by simp only [go_sem]; try rfl); exact (by simp only [go_sem]; try rfl); intro q hq
  generalize hgenq : AHeap.put q _ H = M; obtain ⟨g1, hextq⟩ := gen_ex hgenq hq; have hE := hextq; clear hextq hgenq
  apply s_box; decide; exact (by simp only [go_sem]; try rfl); exact (by simp only [go_sem]; try rfl); intro ln hln
  generalize hgenq : AHeap.put ln _ M = M1; obtain ⟨gl, hextq⟩ := gen_ex hgenq hln; have g1 := hextq _ _ g1; have hE := Ext.trans hE hextq; clear hextq hgenq
  apply s_alloc; decide; exact zc_3; intro rs hrs
  generalize hgenq : AHeap.put rs _ M1 = M2; obtain ⟨gr, hextq⟩ := gen_ex hgenq hrs; have g1 := hextq _ _ g1; have gl := hextq _ _ gl; have hE := Ext.trans hE hextq; clear hextq hgenq
  apply s_nil; simp only [AThen, ABlock]; refine hK _ _ ?_; clear hK K
  ((iterate 2 (refine AWp_seq_k (fun K hK => ?_))); apply s_region; apply s_q; decide; rfl; (simp only [go_sem, g1]; rfl); apply s_call; decide; (simp only [go_sem, g1]; rfl); (simp only [go_sem, g1]; rfl); apply hR; apply s_nil; simp only [AThen, ABlock]; refine hK _ _ ?_; clear hK K)
  refine cond_split (by simp only [go_sem]; try rfl) (fun hc => ?_) (fun hc => ?_)
  rotate_left
  · have hc : rightB p = false := by simpa using hc
    have hno : lineA p i = [] := by rw [lineA, if_neg (by rw [hc]; decide)]
    rw [hno] at h
    (apply AWp_skip; simp only [AThen, ABlock]; refine hK _ _ ?_; clear hK K; refine AWp_seq_k (fun K hK => ?_); apply s_region; (iterate 2 (apply s_q; decide; rfl; (simp only [go_sem, gl, gr]; rfl))); apply s_store; (simp only [go_sem, gl, gr]; rfl); (simp only [go_sem, gl, gr]; rfl); (simp only [go_sem, gl, gr]; rfl); apply s_nil; simp only [AThen, ABlock]; refine hK _ _ ?_; clear hK K; apply AWp_ret)
    try simp only [AThen, ABlock]
    refine end_ret (by show resAV X.P _ _ [.cell 6 3] = _; simp only [go_sem]; try rfl) ⟨H, hE.over (none_of_ext (by assumption) hrs), h⟩
  have hc : rightB p = true := by simpa using hc
  have hr := right_true hc
  have hfin : lineA p i = lineP p i := by rw [lineA, if_pos hc]
  rw [hfin] at h
  have hHr : H.get rs = none := none_of_ext (by assumption) hrs
  have hrl : rs ≠ ln := by rintro rfl; rw [gr] at gl; cases gl
  (refine AWp_seq_k (fun K hK => ?_); apply s_region; (iterate 2 (apply s_q; decide; rfl; (simp only [go_sem, g1]; rfl))); apply s_call; decide; (simp only [go_sem, g1]; rfl); (simp only [go_sem, g1]; rfl); apply hBk; intro b c hb hc2; apply s_nil; simp only [AThen, ABlock]; refine hK _ _ ?_; clear hK K; apply AWp_block)
  have hcb : c ≠ b := by rintro rfl; rw [AHeap.get_put_same] at hc2; cases hc2
  have k1 := get_fresh (AHeap.get_put_same b (paBox p) M2) hc2 (x := ibox i)
  have k2 := AHeap.get_put_same c (ibox i) (M2.put b (paBox p))
  have k3 := (hE.put hb (ob := paBox p)).put hc2 (ob := ibox i)
  have hHb : H.get b = none := none_of_ext hE hb
  have hHc : H.get c = none := none_of_ext (hE.put hb (ob := paBox p)) hc2
  have kl := get_fresh (get_fresh gl hb (x := paBox p)) hc2 (x := ibox i)
  have kr := get_fresh (get_fresh gr hb (x := paBox p)) hc2 (x := ibox i)
  have hcr : c ≠ rs := by
    rintro rfl
    rw [get_fresh gr hb (x := paBox p)] at hc2; cases hc2
  generalize (M2.put b (paBox p)).put c (ibox i) = M3 at k1 k2 k3 kl kr ⊢
  clear g1 gl gr
  skip
  refine AWp_cut [4, 6, 13] (vs := [ptrTo ln, ptrTo rs, .fn (.func 93) [] [ptrTo b, ptrTo c]]) rfl ?_
  simp only [List.zip_cons_cons, List.zip_nil_right]
  apply AWp_rangeFunc; exact (by simp only [go_sem]; try rfl); intro y hy
  generalize hlo : AObj.loop 23 _ _ _ _ LoopState.ready none = lo
  have y1 := get_ne_fresh kl hy
  have y2 := get_ne_fresh k1 hy
  have y3 := get_ne_fresh k2 hy
  have y4 := get_ne_fresh kr hy
  have hHy : H.get y = none := none_of_ext k3 hy
  have hcl : c ≠ ln := by rintro rfl; rw [k2] at kl; cases kl
  have hbr : b ≠ rs := by rintro rfl; rw [k1] at kr; cases kr
  refine iterB_c p hw hr i y b c (fun n L => L.get y = some lo ∧ L.get b = some (paBox p) ∧ L.get ln = some (.box 38 [.sl t (line.map intCells)]) ∧ L.get rs = some (ibox 0) ∧ Ext H L ∧ ∀ x ∈ (lineP p i).take n, decide (x ∈ line) = false) _ (fun n L h => h.2.1) ?_ ?_ ?_ _ ?_ (get_fresh k2 hy)
  · rintro n L v ⟨g1, g2, g3, g4, g5, g6⟩
    exact ⟨by rw [AHeap.get_put, if_neg (Ne.symm y3)]; exact g1, by rw [AHeap.get_put, if_neg (Ne.symm hcb)]; exact g2, by rw [AHeap.get_put, if_neg (Ne.symm hcl)]; exact g3, by rw [AHeap.get_put, if_neg (Ne.symm hcr)]; exact g4, g5.over hHc, g6⟩
  · rintro n x L hx ⟨g1, g2, g3, g4, g5, g6⟩ gc
    rw [← hlo] at g1
    apply AYield_intro g1 rfl; decide
    simp only [putAll, List.toList_toArray]
    (apply s_region; apply s_q; (dsimp only; decide); rfl; (simp only [go_sem]; rfl); apply s_nil; simp only [AThen, ABlock])
    refine ⟨g1, ?_⟩
    generalize hlb : AObj.loop 23 _ _ _ _ LoopState.busy none = lb
    have c1 := AHeap.get_put_same y lb L
    have c2 : (L.put y lb).get b = some (paBox p) := by rw [AHeap.get_put, if_neg y2]; exact g2
    have c3 : (L.put y lb).get ln = some (.box 38 [.sl t (line.map intCells)]) := by rw [AHeap.get_put, if_neg y1]; exact g3
    have c4 : (L.put y lb).get rs = some (ibox 0) := by rw [AHeap.get_put, if_neg y4]; exact g4
    have c5 : (L.put y lb).get c = some (ibox x) := by rw [AHeap.get_put, if_neg y3]; exact gc
    have c6 := g5.over (o := lb) hHy
    generalize L.put y lb = N at c1 c2 c3 c4 c5 c6 ⊢
    (apply AWp_block; refine AWp_seq_k (fun K hK => ?_); apply s_region; (iterate 2 (apply s_q; (dsimp only; decide); rfl; (simp only [go_sem, c3]; rfl))); apply s_call; (dsimp only; decide); (simp only [go_sem, c3]; rfl); (simp only [go_sem, c3]; rfl); apply index_c t line x (by omega); apply s_q; (dsimp only; decide); rfl; (simp only [go_sem, c3]; rfl); apply s_nil; simp only [AThen, ABlock]; refine hK _ _ ?_; clear hK K; refine AWp_seq_k (fun K hK => ?_); apply s_region; (iterate 2 (apply s_q; (dsimp only; decide); rfl; (simp only [go_sem, c3]; rfl))); apply s_nil; simp only [AThen, ABlock]; refine hK _ _ ?_; clear hK K)
    refine cond_split (by simp only [go_sem]; try rfl) (fun hz => ?_) (fun hz => ?_)
    · have hm : x ∈ line := atI_mem.1 (by simpa using hz)
      rw [find_first hx g6 (by simpa using hm)] at h
      (refine AWp_seq_k (fun K hK => ?_); apply s_region; apply s_q; (dsimp only; decide); rfl; (simp only [go_sem, c4]; rfl); apply s_store; (simp only [go_sem, c4]; rfl); (simp only [go_sem, c4]; rfl); (simp only [go_sem, c4]; rfl); apply s_nil; simp only [AThen, ABlock]; refine hK _ _ ?_; clear hK K; apply AWp_ret)
      simp only [ABlock, ARound]
      refine ⟨by rw [hlb, AHeap.get_put, if_neg (Ne.symm y4)]; exact c1, .inr ⟨by trivial, _, .done, some .ret, AHeap.get_put_same _ _ _, by simp, ?_⟩⟩
      have c7 : ∀ o, AHeap.get rs (AHeap.del y (AHeap.put y o (AHeap.put rs (ibox (atI x line)) N))) = some (ibox (atI x line)) := fun o => by
        rw [AHeap.get_del, if_neg y4, AHeap.get_put, if_neg y4, AHeap.get_put_same]
      (apply AWp_ret)
      try simp only [AThen, ABlock]
      refine end_ret (av := .v (.int .i64 (atI x line))) (by show resAV X.P _ _ [.cell 6 3] = _; simp only [go_sem, c7]; try rfl) ⟨H, ((c6.over hHr).over hHy).del hHy, h⟩
    · have hm : ¬ x ∈ line := fun h => by have := atI_mem.2 h; simp at hz; omega
      (apply AWp_skip; simp only [AThen, ABlock])
      simp only [ABlock, ARound]
      refine ⟨by rw [hlb]; exact c1, .inl ⟨by trivial, ⟨?_, ?_, ?_, ?_, ?_, ?_⟩, ?_⟩⟩
      · rw [AHeap.get_put_same, hlo]
      · rw [AHeap.get_put, if_neg y2]; exact c2
      · rw [AHeap.get_put, if_neg y1]; exact c3
      · rw [AHeap.get_put, if_neg y4]; exact c4
      · exact c6.over hHy
      · intro w hw3
        rcases take_mem_succ hx hw3 with h1 | rfl
        · exact g6 w h1
        · simpa using hm
      · rw [AHeap.get_put, if_neg y3]; exact c5
  · rintro L ⟨g1, g2, g3, g4, g5, g6⟩
    rw [List.take_length] at g6
    rw [find_none g6] at h
    refine ⟨_, .ready, none, by rw [g1, ← hlo], by simp, ?_⟩
    simp only [ABlock, AThen]
    have q1 : (AHeap.del y L).get ln = some (.box 38 [.sl t (line.map intCells)]) := by rw [AHeap.get_del, if_neg y1]; exact g3
    have q2 : (AHeap.del y L).get rs = some (ibox 0) := by rw [AHeap.get_del, if_neg y4]; exact g4
    have q3 := g5.del hHy
    refine hK _ _ ?_
    (refine AWp_seq_k (fun K hK => ?_); apply s_region; (iterate 2 (apply s_q; decide; rfl; (simp only [go_sem, q1, q2]; rfl))); apply s_store; (simp only [go_sem, q1, q2]; rfl); (simp only [go_sem, q1, q2]; rfl); (simp only [go_sem, q1, q2]; rfl); apply s_nil; simp only [AThen, ABlock]; refine hK _ _ ?_; clear hK K; apply AWp_ret)
    try simp only [AThen, ABlock]
    refine end_ret (by show resAV X.P _ _ [.cell 6 3] = _; simp only [go_sem]; try rfl) ⟨H, q3.over hHr, h⟩
  · exact ⟨AHeap.get_put_same _ _ _, get_fresh k1 hy, get_fresh kl hy, get_fresh kr hy, k3.put hy, by simp⟩
end Go.Proofs.YtcpfgjfiacfmoaaGreatDoor

namespace Go.Proofs
open Go.Shelf
def Tryz.lays189_ren : Go.Shelf.Ren := ⟨fun | 189 => 61 | 125 => 95 | 257 => 94 | 128 => 121 | 129 => 122 | 294 => 113 | 295 => 114 | 296 => 115 | 297 => 116 | 298 => 117 | 299 => 118 | 216 => 84 | 300 => 119 | 301 => 120 | 328 => 145 | 329 => 146 | 330 => 147 | 331 => 148 | 332 => 149 | 215 => 97 | 343 => 162 | n => n, fun | 28 => 38 | 3 => 3 | 46 => 105 | 0 => 0 | 51 => 132 | 53 => 134 | 4 => 4 | 183 => 126 | 182 => 125 | 131 => 74 | 5 => 5 | 9 => 9 | 218 => 146 | 222 => 150 | 228 => 160 | 229 => 161 | n => n, fun | n => n⟩
theorem Tryz.lays189 : Go.Proofs.Lays.n189 Tryz.prog Tryz.lays189_ren := {
  mixed := by kernel_rfl
  f125 := Tryz.func95.trans (congrArg some (by kernel_rfl))
  f128 := Tryz.func121.trans (congrArg some (by kernel_rfl))
  f129 := Tryz.func122.trans (congrArg some (by kernel_rfl))
  f189 := Tryz.func61.trans (congrArg some (by kernel_rfl))
  f215 := Tryz.func97.trans (congrArg some (by kernel_rfl))
  f216 := Tryz.func84.trans (congrArg some (by kernel_rfl))
  f257 := Tryz.func94.trans (congrArg some (by kernel_rfl))
  f294 := Tryz.func113.trans (congrArg some (by kernel_rfl))
  f295 := Tryz.func114.trans (congrArg some (by kernel_rfl))
  f296 := Tryz.func115.trans (congrArg some (by kernel_rfl))
  f297 := Tryz.func116.trans (congrArg some (by kernel_rfl))
  f298 := Tryz.func117.trans (congrArg some (by kernel_rfl))
  f299 := Tryz.func118.trans (congrArg some (by kernel_rfl))
  f300 := Tryz.func119.trans (congrArg some (by kernel_rfl))
  f301 := Tryz.func120.trans (congrArg some (by kernel_rfl))
  f328 := Tryz.func145.trans (congrArg some (by kernel_rfl))
  f329 := Tryz.func146.trans (congrArg some (by kernel_rfl))
  f330 := Tryz.func147.trans (congrArg some (by kernel_rfl))
  f331 := Tryz.func148.trans (congrArg some (by kernel_rfl))
  f332 := Tryz.func149.trans (congrArg some (by kernel_rfl))
  f343 := Tryz.func162.trans (congrArg some (by kernel_rfl))
  t0 := Tryz.underlying0
  a0 := Tryz.isAgg0
  z0 := Tryz.sizeOf0
  v0 := Tryz.zeroValue0
  t3 := Tryz.underlying3
  a3 := Tryz.isAgg3
  z3 := Tryz.sizeOf3
  v3 := Tryz.zeroValue3
  t4 := Tryz.underlying4
  a4 := Tryz.isAgg4
  z4 := Tryz.sizeOf4
  v4 := Tryz.zeroValue4
  t5 := Tryz.underlying5
  a5 := Tryz.isAgg5
  z5 := Tryz.sizeOf5
  v5 := Tryz.zeroValue5
  t9 := Tryz.underlying9
  a9 := Tryz.isAgg9
  z9 := Tryz.sizeOf9
  v9 := Tryz.zeroValue9
  t28 := Tryz.underlying38
  a28 := Tryz.isAgg38
  z28 := Tryz.sizeOf38
  v28 := Tryz.zeroValue38
  t46 := Tryz.underlying105
  a46 := Tryz.isAgg105
  z46 := Tryz.sizeOf105
  v46 := Tryz.zeroValue105
  t51 := Tryz.underlying132
  a51 := Tryz.isAgg132
  z51 := Tryz.sizeOf132
  v51 := Tryz.zeroValue132
  t53 := Tryz.underlying134
  a53 := Tryz.isAgg134
  z53 := Tryz.sizeOf134
  v53 := Tryz.zeroValue134
  t131 := Tryz.underlying74
  a131 := Tryz.isAgg74
  z131 := Tryz.sizeOf74
  v131 := Tryz.zeroValue74
  t182 := Tryz.underlying125
  a182 := Tryz.isAgg125
  z182 := Tryz.sizeOf125
  v182 := Tryz.zeroValue125
  t183 := Tryz.underlying126
  a183 := Tryz.isAgg126
  z183 := Tryz.sizeOf126
  v183 := Tryz.zeroValue126
  t218 := Tryz.underlying146
  a218 := Tryz.isAgg146
  z218 := Tryz.sizeOf146
  v218 := Tryz.zeroValue146
  t222 := Tryz.underlying150
  a222 := Tryz.isAgg150
  z222 := Tryz.sizeOf150
  v222 := Tryz.zeroValue150
  t228 := Tryz.underlying160
  a228 := Tryz.isAgg160
  z228 := Tryz.sizeOf160
  v228 := Tryz.zeroValue160
  t229 := Tryz.underlying161
  a229 := Tryz.isAgg161
  z229 := Tryz.sizeOf161
  v229 := Tryz.zeroValue161 }
def Tryz.laysNm220_ren : Go.Shelf.Ren := ⟨fun | 20 => 78 | n => n, fun | 22 => 38 | 3 => 3 | 4 => 4 | 0 => 0 | n => n, fun | n => n⟩
theorem Tryz.laysNm220 : Go.Proofs.Lays2.n20 Tryz.prog Tryz.laysNm220_ren := {
  mixed := by kernel_rfl
  f20 := Tryz.func78.trans (congrArg some (by kernel_rfl))
  t0 := Tryz.underlying0
  a0 := Tryz.isAgg0
  z0 := Tryz.sizeOf0
  v0 := Tryz.zeroValue0
  t3 := Tryz.underlying3
  a3 := Tryz.isAgg3
  z3 := Tryz.sizeOf3
  v3 := Tryz.zeroValue3
  t4 := Tryz.underlying4
  a4 := Tryz.isAgg4
  z4 := Tryz.sizeOf4
  v4 := Tryz.zeroValue4
  t22 := Tryz.underlying38
  a22 := Tryz.isAgg38
  z22 := Tryz.sizeOf38
  v22 := Tryz.zeroValue38
  i3 := by kernel_rfl }
def Tryz.laysNm221_ren : Go.Shelf.Ren := ⟨fun | 21 => 89 | 27 => 111 | 28 => 112 | 35 => 144 | 39 => 161 | n => n, fun | 22 => 38 | 3 => 3 | 4 => 4 | 0 => 0 | n => n, fun | n => n⟩
theorem Tryz.laysNm221 : Go.Proofs.Lays2.n21 Tryz.prog Tryz.laysNm221_ren := {
  mixed := by kernel_rfl
  f21 := Tryz.func89.trans (congrArg some (by kernel_rfl))
  f27 := Tryz.func111.trans (congrArg some (by kernel_rfl))
  f28 := Tryz.func112.trans (congrArg some (by kernel_rfl))
  f35 := Tryz.func144.trans (congrArg some (by kernel_rfl))
  f39 := Tryz.func161.trans (congrArg some (by kernel_rfl))
  t0 := Tryz.underlying0
  a0 := Tryz.isAgg0
  z0 := Tryz.sizeOf0
  v0 := Tryz.zeroValue0
  t3 := Tryz.underlying3
  a3 := Tryz.isAgg3
  z3 := Tryz.sizeOf3
  v3 := Tryz.zeroValue3
  t4 := Tryz.underlying4
  a4 := Tryz.isAgg4
  z4 := Tryz.sizeOf4
  v4 := Tryz.zeroValue4
  t22 := Tryz.underlying38
  a22 := Tryz.isAgg38
  z22 := Tryz.sizeOf38
  v22 := Tryz.zeroValue38
  i3 := by kernel_rfl }
namespace YtcpfgjfiacfmoaaGreatDoor
open Go.AL
def sortZ (l : List Int) : List Int := l.mergeSort fun x y => decide (x ≤ y)
theorem sortsI61 : SortsOrd X.P 61 (Value.int .i64) sortZ :=
  ⟨fun p cap w => Any.slices_Sort_int_none Tryz.lays189 p cap w, fun blk cap ss w hH hblk hsz => Any.slices_Sort_int Tryz.lays189 blk 0 cap ss w hH hblk hsz⟩
theorem inserts89 : InsertsAt X.P 89 3 8 (.int .i64 0) where
  shift := fun b off n c i vb voff vc cs x w hi hroom hc63 hvb hcl hcs hsp hfz hx h1c h1x tA tB kA kB hsa hsb hkB hfa hfe =>
    Any2.slices_Insert_int_shift Tryz.laysNm221 b off n c i vb voff 1 vc cs [x] w hi (by decide) hroom hc63 hvb hcl rfl hcs hsp hfz (fun j v hj => by cases j with | zero => cases hj; exact hx | succ j => cases hj) h1c (fun v hv => by simp at hv; subst hv; exact h1x) tA tB kA kB hsa hsb hkB hfa hfe
  endRoom := fun b off n c vb voff vc x w hroom hc63 hsp hfz hx h1x =>
    Any2.slices_Insert_int_end_room Tryz.laysNm221 b off n c vb voff 1 vc [x] w (by decide) hroom hc63 rfl (fun j hj => by rw [Nat.lt_one_iff.1 hj]; exact hsp) (fun j hj => by rw [Nat.lt_one_iff.1 hj]; exact hfz) (fun j v hj => by cases j with | zero => cases hj; exact hx | succ j => cases hj) (fun v hv => by simp at hv; subst hv; exact h1x)
  endGrow := fun a n c vb voff vc cs x w hnc hroom hbig hcl hcs hx h1x =>
    Any2.slices_Insert_int_end_grow Tryz.laysNm221 (some a) n c vb voff 1 vc cs [x] w (by decide) hnc hroom hbig hcl rfl (fun h => by cases h) (fun a' ha j v hj => by cases ha; exact hcs j v hj) (fun j v hj => by cases j with | zero => cases hj; exact hx | succ j => cases hj) (fun v hv => by simp at hv; subst hv; exact h1x)
  grow := fun b off n c i vb voff vc cs x w hi hnc hroom hbig hcl hcs hx h1c h1x =>
    Any2.slices_Insert_int_grow Tryz.laysNm221 b off n c i vb voff 1 vc cs [x] w hi (by decide) hnc hroom hbig hcl rfl hcs (fun j v hj => by cases j with | zero => cases hj; exact hx | succ j => cases hj) h1c (fun v hv => by simp at hv; subst hv; exact h1x)
  zone := rfl
end YtcpfgjfiacfmoaaGreatDoor
end Go.Proofs

set_option linter.unusedSimpArgs false
set_option linter.unusedVariables false
set_option maxRecDepth 100000
namespace Go.Proofs.YtcpfgjfiacfmoaaGreatDoor
open Go Go.AL
attribute [local irreducible] AOps AWp SOps AE AT ACall AApp

theorem sortZ_len (l : List Int) : (sortZ l).length = l.length := by rw [sortZ, List.length_mergeSort]
theorem compactsZ : Compacts X.P 78 (Value.int .i64) Lib.compact (fun zs => List.replicate (zs.length - (Lib.compact zs).length) 0) :=
  ⟨fun p cap w => Any.slices_Compact_int_empty Tryz.laysNm220 p cap w, fun blk cap ss w hH hsz hcap => Any.slices_Compact_int Tryz.laysNm220 blk 0 cap ss w hH hsz hcap⟩
theorem comp_upto {l : List Int} (hl : l.Pairwise (· ≤ ·)) : ∀ m, m ≤ l.length → (∀ x, x ∈ Lib.compactUpTo l.toArray m ↔ x ∈ l.take m) ∧ (Lib.compactUpTo l.toArray m).Pairwise (· < ·)
  | 0, _ => ⟨fun x => by simp [Lib.compactUpTo], by simp [Lib.compactUpTo]⟩
  | m + 1, hm => by
    obtain ⟨h1, h2⟩ := comp_upto hl m (by omega)
    have hx : l[m]? = some l[m] := List.getElem?_eq_getElem (by omega)
    have ex : l.toArray[m]! = l[m] := by rw [getElem!_pos _ _ (by simp; omega)]; simp
    rw [Lib.compactUpTo_succ, take_succ hx, ex]
    by_cases hk : Lib.keeps l.toArray m = true
    · rw [if_pos hk]
      refine ⟨fun x => by rw [List.mem_append, List.mem_append, h1], ?_⟩
      rw [List.pairwise_append]
      refine ⟨h2, List.pairwise_singleton _ _, fun a ha b hb => ?_⟩
      rw [List.mem_singleton] at hb
      subst hb
      have ha' := (h1 a).1 ha
      obtain ⟨j, hj, rfl⟩ := List.mem_take_iff_getElem.1 ha'
      have hjm : j < m := by omega
      have hle := List.pairwise_iff_getElem.1 hl j m (by omega) (by omega) hjm
      simp only [Lib.keeps, decide_eq_true_eq] at hk
      rcases hk with hk | hk
      · omega
      · have e2 : l.toArray[m - 1]! = l[m - 1] := by rw [getElem!_pos _ _ (by simp; omega)]; simp
        rw [ex, e2] at hk
        have h3 : l[j] ≤ l[m - 1] := by
          by_cases e : j = m - 1
          · subst e; exact Int.le_refl _
          · exact List.pairwise_iff_getElem.1 hl j (m - 1) (by omega) (by omega) (by omega)
        have h4 := List.pairwise_iff_getElem.1 hl (m - 1) m (by omega) (by omega) (by omega)
        omega
    · rw [if_neg hk, List.append_nil]
      refine ⟨fun x => ?_, h2⟩
      rw [h1, List.mem_append, List.mem_singleton]
      refine ⟨.inl, fun h => ?_⟩
      rcases h with h | rfl
      · exact h
      · have hk2 : ¬ (m = 0 ∨ l.toArray[m]! ≠ l.toArray[m - 1]!) := fun h => hk (by simp only [Lib.keeps, decide_eq_true_eq]; exact h)
        have hm0 : m ≠ 0 := fun h => hk2 (.inl h)
        have he : l.toArray[m]! = l.toArray[m - 1]! := Decidable.byContradiction fun h => hk2 (.inr h)
        have e2 : l.toArray[m - 1]! = l[m - 1] := by rw [getElem!_pos _ _ (by simp; omega)]; simp
        rw [ex, e2] at he
        rw [he, List.mem_take_iff_getElem]
        exact ⟨m - 1, by omega, rfl⟩
theorem sortZ_sorted (l : List Int) : (sortZ l).Pairwise (· ≤ ·) := by
  have := List.pairwise_mergeSort (le := fun x y : Int => decide (x ≤ y)) (fun a b c h k => by simp only [decide_eq_true_eq] at *; omega) (fun a b => by simp only [Bool.or_eq_true, decide_eq_true_eq]; omega) l
  exact this.imp (fun h => by simpa using h)
theorem sortZ_perm (l : List Int) : (sortZ l).Perm l := List.mergeSort_perm _ _
def onceZ (l : List Int) : List Int := Lib.compact (sortZ l)
theorem onceZ_mem (l : List Int) (x : Int) : x ∈ onceZ l ↔ x ∈ l := by
  have := (comp_upto (sortZ_sorted l) (sortZ l).length (Nat.le_refl _)).1 x
  rw [List.take_length] at this
  exact this.trans (sortZ_perm l).mem_iff
theorem onceZ_lt (l : List Int) : (onceZ l).Pairwise (· < ·) := (comp_upto (sortZ_sorted l) (sortZ l).length (Nat.le_refl _)).2
theorem sorted_uniq : ∀ {l m : List Int}, l.Pairwise (· < ·) → m.Pairwise (· < ·) → (∀ x, x ∈ l ↔ x ∈ m) → l = m := fun {l m} hl hm h => by
  have hp : l.Perm m := (List.perm_ext_iff_of_nodup (hl.imp fun h e => by subst e; exact absurd h (Int.lt_irrefl _)) (hm.imp fun h e => by subst e; exact absurd h (Int.lt_irrefl _))).2 h
  exact hp.eq_of_pairwise (le := (· < ·)) (fun a b _ _ h1 h2 => absurd (Int.lt_trans h1 h2) (Int.lt_irrefl _)) hl hm
theorem those_eq (n : Nat) (l : List Int) : onceZ (l.filter fun x => !!inR n x) = setL n l := by
  refine sorted_uniq (onceZ_lt _) (setL_lt n l) (fun x => ?_)
  rw [onceZ_mem, setL_mem, List.mem_filter]
  simp [inR]
set_option maxHeartbeats 4000000 in
theorem those_r (p : Pa) (hw : p.Wide) (t : Bool) (l : List Int) (hl : l.length ≤ 1000) (H : AHeap) (Kc : AV → AHeap → Prop) (h : ∀ s L, Ext H L → RowAt 3 1 H L ((setL p.events.length l).map intCells) s → Kc s L) : ACall X 43 [.agg p.cells, .sl t (l.map intCells)] H Kc := by
  rw [Pa.cells]
  refine ACall_intro Tryz.func43 rfl (by kernel_rfl) (by rw [Tryz.ntmps43]; simp) ?_; rw [Tryz.ntmps43]; simp only [frame0, Nat.reduceAdd]
  refine AWp_seq_k (fun K hK => ?_); apply s_region
  apply s_box; decide; exact (by simp only [go_sem]; try rfl); exact (by simp only [go_sem]; try rfl); intro q hq
  have g1 := AHeap.get_put_same q (paBox p) H
  have hE := Ext.fresh hq (o := paBox p)
  generalize hM : AHeap.put q (.box 35 [.sl false (p.names.map strCells), .sl false (p.events.map Ev.cells), .sl false (p.prev.map rowCells), .sl false (p.auth.map rowCells), .sl false (p.denied.map bolCells)]) H = M
  have hM2 : H.put q (paBox p) = M := hM
  rw [hM2] at g1 hE
  clear hM hM2
  (apply s_q; decide; rfl; (simp only [go_sem]; rfl); apply s_nil; simp only [AThen, ABlock]; refine hK _ _ ?_; clear hK K; refine AWp_seq_k (fun K hK => ?_); apply s_region; apply s_q; decide; rfl; (simp only [go_sem]; rfl); apply s_call; decide; (simp only [go_sem]; rfl); (simp only [go_sem]; rfl); apply clone_c t l (by omega); intro a1 L1 e1 r1; apply s_q; decide; rfl; (simp only [go_sem]; rfl))
  have hq1 := e1 _ _ g1
  have hE1 := hE.trans e1
  have r1b := RowAt.base r1 hE
  (apply s_call; decide; (simp only [go_sem]; rfl); (simp only [go_sem]; rfl); apply deleteFunc_c 77 q (paBox p) (fun _ _ _ h => by cases h) (fun x => !inR p.events.length x) l (by omega) H L1 hE1 a1 r1b hq1 (fun x L' hq' K hK => those1_d p hw x q L' hq' K hK); intro a2 L2 r2 e2 k2; apply s_q; decide; rfl; (simp only [go_sem]; rfl); apply s_nil; simp only [AThen, ABlock]; refine hK _ _ ?_; clear hK K; refine AWp_seq_k (fun K hK => ?_); apply s_region; apply s_q; decide; rfl; (simp only [go_sem]; rfl))
  obtain ⟨l2, hl2⟩ : ∃ l2, (l.filter fun x => !!inR p.events.length x) = l2 := ⟨_, rfl⟩
  have hl2n : l2.length ≤ 1000 := by rw [← hl2]; exact Nat.le_trans (List.length_filter_le _ _) hl
  have heq := those_eq p.events.length l
  rw [hl2] at r2 heq
  (apply s_call; decide; (simp only [go_sem]; rfl); (simp only [go_sem]; rfl); apply ACall_ord (ss := l2) sortsI61 (by kernel_rfl) (fun _ _ x => VR.v _) (fun F S v x hv => by cases hv; rfl) (sortZ_len _) e2 r2 (by omega); intro L3 r3 e3 k3; apply s_nil; simp only [AThen, ABlock]; refine hK _ _ ?_; clear hK K; refine AWp_seq_k (fun K hK => ?_); apply s_region; apply s_q; decide; rfl; (simp only [go_sem]; rfl))
  have hsl : (onceZ l2).length + (List.replicate ((sortZ l2).length - (Lib.compact (sortZ l2)).length) (0 : Int)).length = (sortZ l2).length := by
    have := Lib.compact_length_le (sortZ l2)
    rw [List.length_replicate]
    show (Lib.compact (sortZ l2)).length + _ = _
    omega
  (apply s_call; decide; (simp only [go_sem]; rfl); (simp only [go_sem]; rfl); apply ACall_compact (ss := sortZ l2) compactsZ (by kernel_rfl) (fun _ _ x => VR.v _) (fun F S v x hv => by cases hv; rfl) hsl e3 r3 (by rw [sortZ_len]; omega); intro a4 L4 r4 e4 k4; apply s_q; decide; rfl; (simp only [go_sem]; rfl); apply s_nil; simp only [AThen, ABlock]; refine hK _ _ ?_; clear hK K; apply AWp_ret)
  have r4 : RowAt 3 1 H L4 ((onceZ l2).map intCells) a4 := r4
  rw [heq] at r4
  exact h _ _ e4 r4
theorem those_c (p : Pa) (hw : p.Wide) (t : Bool) (l : List Int) (hl : l.length ≤ 1000) (H : AHeap) (Kc : AV → AHeap → Prop) (h : Kc (.sl false ((setL p.events.length l).map intCells)) H) : ACall X 43 [.agg p.cells, .sl t (l.map intCells)] H Kc :=
  ACall.gr (e := 3) (sz := 1) h (those_r p hw t l hl H _ fun s L h1 h2 => h2.toGr h1)
set_option maxHeartbeats 4000000 in
theorem chain_c (p : Pa) (hw : p.Wide) (hn : p.events.length ≤ 1000) (t : Bool) (l : List Int) (hl : l.length ≤ 1000) (H : AHeap) (Kc : AV → AHeap → Prop) (h : Kc (.sl false ((chainP p l).map intCells)) H) : ACall X 27 [.agg p.cells, .sl t (l.map intCells)] H Kc := by
  refine ACall.gr (e := 3) (sz := 1) h ?_
  clear h
  have hR : ∀ (H : AHeap) (K : AV → AHeap → Prop), K (.v (.bool (rightB p))) H → ACall X 25 [.agg [.sl false (p.names.map strCells), .sl false (p.events.map Ev.cells), .sl false (p.prev.map rowCells), .sl false (p.auth.map rowCells), .sl false (p.denied.map bolCells)]] H K := fun H K hK => right_c p hw H K hK
  rw [Pa.cells]
  refine ACall_intro Tryz.func27 rfl (by kernel_rfl) (by rw [Tryz.ntmps27]; simp) ?_; rw [Tryz.ntmps27]; simp only [frame0, Nat.reduceAdd]
  refine AWp_seq_k (fun K hK => ?_); apply s_region
  apply s_box; decide; exact (by simp only [go_sem]; try rfl); exact (by simp only [go_sem]; try rfl); intro q hq
  generalize hgenq : AHeap.put q _ H = M; obtain ⟨g1, hextq⟩ := gen_ex hgenq hq; have hE := hextq; clear hextq hgenq
  (apply s_q; decide; rfl; (simp only [go_sem, g1]; rfl); apply s_nil; simp only [AThen, ABlock]; refine hK _ _ ?_; clear hK K; (iterate 2 (refine AWp_seq_k (fun K hK => ?_))); apply s_region; apply s_q; decide; rfl; (simp only [go_sem, g1]; rfl); apply s_call; decide; (simp only [go_sem, g1]; rfl); (simp only [go_sem, g1]; rfl); apply hR; apply s_q; decide; rfl; (simp only [go_sem, g1]; rfl); apply s_nil; simp only [AThen, ABlock]; refine hK _ _ ?_; clear hK K)
  refine cond_split (by simp only [go_sem]; try rfl) (fun hc => ?_) (fun hc => ?_)
  · have hc : rightB p = false := by simpa using hc
    (refine AWp_seq_k (fun K hK => ?_); apply s_region; apply s_q; decide; rfl; (simp only [go_sem]; rfl); apply s_nil; simp only [AThen, ABlock]; refine hK _ _ ?_; clear hK K; apply AWp_ret; simp only [AThen, ABlock]; apply end_ret; rfl; simp only [AFr.get, reduceIte, Nat.reduceEqDiff])
    rw [chainP, if_neg (by rw [hc]; decide)]
    exact ⟨M, hE, .inl ⟨rfl, rfl, rfl⟩⟩
  have hc : rightB p = true := by simpa using hc
  have hr := right_true hc
  have hB := below_of hr
  have hau := hr.au
  have hRe : ∀ (H : AHeap) (K : AV → AHeap → Prop), (∀ m L S, Ext H L → H.get m = none → L.get m = some (.imap .i64 (mkT S)) → S.Nodup → (∀ k, k ∈ S ↔ Reach p.auth l k) → K (.v (.map (some m))) L) → ACall X 51 [.agg [.sl false (p.names.map strCells), .sl false (p.events.map Ev.cells), .sl false (p.prev.map rowCells), .sl false (p.auth.map rowCells), .sl false (p.denied.map bolCells)], .sl t (l.map intCells)] H K := fun H K hK => reach_c p hw hr (by omega) t l hl H K hK
  (apply AWp_skip; simp only [AThen, ABlock]; refine hK _ _ ?_; clear hK K; refine AWp_seq_k (fun K hK => ?_); apply s_region; apply s_q; decide; rfl; (simp only [go_sem, g1]; rfl); apply s_nil; simp only [AThen, ABlock]; refine hK _ _ ?_; clear hK K; (iterate 2 (refine AWp_seq_k (fun K hK => ?_))); apply s_region; (iterate 2 (apply s_q; decide; rfl; (simp only [go_sem, g1]; rfl))); apply s_call; decide; (simp only [go_sem, g1]; rfl); (simp only [go_sem, g1]; rfl); apply hRe; intro m L0 S hE0 hm hm0 hnd hmem)
  have hks : S.length ≤ 1000 := by
    have := Search.few hB hnd (fun k hk => (hmem k).1 hk)
    omega
  have hEL := hE.trans hE0
  have hHm : H.get m = none := none_of_ext hE hm
  apply s_rangeI; decide; exact Tryz.underlying76; exact (by simp only [go_sem]; try rfl); exact hm0
  intro ents clock r hsz hr2
  have hnk2 : ents.size = S.length := by rw [hsz]; simp [mkT]
  have hrm : r ≠ m := by rintro rfl; rw [hm0] at hr2; cases hr2
  have hHr : H.get r = none := none_of_ext hEL hr2
  obtain ⟨km, hkmE⟩ : ∃ km, km = AObj.kmap ents clock ((mkT S).map fun p => .v (.int .i64 p.1)) ((mkT S).map (·.2)) := ⟨_, rfl⟩
  rw [← hkmE]
  have f2 : ((L0.put m km).put r (.walk m ents clock [])).get m = some km := by
    rw [AHeap.get_put, if_neg (Ne.symm hrm), AHeap.get_put_same]
  have f3 := AHeap.get_put_same r (.walk m ents clock []) (L0.put m km)
  have f4 : Ext H ((L0.put m km).put r (.walk m ents clock [])) := (hEL.over hHm).over hHr
  generalize (L0.put m km).put r (.walk m ents clock []) = G at f2 f3 f4 ⊢
  (apply s_nil; simp only [AThen, ABlock]; refine hK _ _ ?_; clear hK K; apply AWp_block)
  refine AWp_loop_s (σ := List Nat × AV × AHeap) [5, 13] (fun s => [s.2.1, ptrTo r]) (fun s => s.2.2) (fun s => S.length - s.1.length)
    (fun s => s.1.Nodup ∧ (∀ i ∈ s.1, i < S.length) ∧ Ext H s.2.2 ∧ s.2.2.get m = some km ∧ s.2.2.get r = some (.walk m ents clock s.1) ∧ RowAt 3 1 H s.2.2 ((s.1.map fun i => S.getD i 0).map intCells) s.2.1)
    ([], .sl true [], G) ⟨.nil, by simp, f4, f2, f3, RowAt.nil _ _ _ _⟩ rfl rfl (fun s hs => ?_)
  obtain ⟨is, o, L⟩ := s
  obtain ⟨hnd2, hlt, hE, gm, gr, hRo⟩ := hs
  simp only [List.zip_cons_cons, List.zip_nil_right] at hnd2 hlt hE gm gr hRo ⊢
  have hil := nodup_nat_le hnd2 hlt
  have gm2 := gm
  rw [hkmE] at gm2
  (refine AWp_seq_k (fun K hK => ?_); apply s_region)
  apply s_nextM; decide; exact (by simp only [go_sem]; try rfl); exact gr; exact gm2; exact (fun i hi => by rw [hnk2]; exact hlt i hi)
  · intro hall
    rw [hnk2] at hall
    have hperm : is.Perm (List.range S.length) := (List.perm_ext_iff_of_nodup hnd2 List.nodup_range).2 (fun a => by rw [List.mem_range]; exact ⟨hlt a, hall a⟩)
    have hmp : (is.map fun i => S.getD i 0).Perm S := by
      have h2 : (List.range S.length).map (fun i => S.getD i 0) = S := by
        apply List.ext_getElem?
        intro i
        by_cases hi : i < S.length
        · simp [hi]
        · simp [hi]
      have := hperm.map (fun i => S.getD i 0)
      rwa [h2] at this
    have hch : sortZ (is.map fun i => S.getD i 0) = chainL p.auth l := by
      have hp := (sortZ_perm (is.map fun i => S.getD i 0)).trans hmp
      refine sorted_uniq ?_ (chain_lt _ _) (fun x => by rw [hp.mem_iff, chain_mem hB, hmem])
      have h2 := sortZ_sorted (is.map fun i => S.getD i 0)
      have h3 : (sortZ (is.map fun i => S.getD i 0)).Nodup := hp.nodup_iff.2 hnd
      rw [List.nodup_iff_pairwise_ne] at h3
      exact (h2.and h3).imp (fun h => by omega)
    (apply s_q; decide; rfl; (simp only [go_sem]; rfl); apply s_nil; simp only [AThen, ABlock]; refine hK _ _ ?_; clear hK K; refine AWp_seq_k (fun K hK => ?_))
    refine cond_split (by simp only [go_sem]; try rfl) (fun hz => ?_) (fun hz => ?_)
    · cases hz
    (apply AWp_exit; simp only [AThen, ABlock, reduceIte, Nat.reduceEqDiff]; clear hK K; refine hK _ _ ?_; clear hK K; refine AWp_seq_k (fun K hK => ?_); apply s_region; apply s_q; decide; rfl; (simp only [go_sem]; rfl); apply s_call; decide; (simp only [go_sem]; rfl); (simp only [go_sem]; rfl); apply ACall_ord (ss := is.map fun i => S.getD i 0) sortsI61 (by kernel_rfl) (fun _ _ x => VR.v _) (fun F S v x hv => by cases hv; rfl) (sortZ_len _) hE hRo (by rw [List.length_map]; omega); intro L2 hR2 hE2 hK2; apply s_nil; simp only [AThen, ABlock]; refine hK _ _ ?_; clear hK K; refine AWp_seq_k (fun K hK => ?_); apply s_region; (iterate 2 (apply s_q; decide; rfl; (simp only [go_sem]; rfl))); apply s_nil; simp only [AThen, ABlock]; refine hK _ _ ?_; clear hK K; apply AWp_ret)
    rw [hch] at hR2
    rw [chainP, if_pos hc]
    obtain ⟨L0, h1, h2⟩ := RowAt.toGr hR2 hE2
    exact ⟨L0, h1, h2⟩
  · intro i k x hni hk hx
    rw [List.getElem?_map, Option.map_eq_some_iff] at hk hx
    obtain ⟨pr, hp, rfl⟩ := hk
    obtain ⟨p2, hp2, rfl⟩ := hx
    rw [hp] at hp2; cases hp2
    have hiS : i < S.length := by
      have := (List.getElem?_eq_some_iff.1 hp).1
      simpa [mkT] using this
    obtain ⟨k, hki⟩ := gete hiS
    have hpk : pr = (k, .v (.bool true)) := by
      rw [mkT, List.getElem?_map, hki] at hp; cases hp; rfl
    subst hpk
    have hkd : S.getD i 0 = k := getD_some hki
    have km1 : (L.put r (.walk m ents clock (is ++ [i]))).get m = some km := by rw [AHeap.get_put, if_neg (Ne.symm hrm)]; exact gm
    have km2 := km1
    rw [hkmE] at km2
    have kr := AHeap.get_put_same r (.walk m ents clock (is ++ [i])) L
    have kE := hE.over (o := .walk m ents clock (is ++ [i])) hHr
    have kR := hRo.put gr (fun _ _ _ h => by cases h) (o' := .walk m ents clock (is ++ [i]))
    generalize L.put r (.walk m ents clock (is ++ [i])) = M3 at km1 km2 kr kE kR ⊢
    have hnd3 : (is ++ [i]).Nodup := List.nodup_append.2 ⟨hnd2, by simp, fun a ha b hb => by simp at hb; subst hb; rintro rfl; exact hni ha⟩
    have hlt3 : ∀ j ∈ is ++ [i], j < S.length := fun j hj => by
      rcases List.mem_append.1 hj with h | h
      · exact hlt j h
      · simp at h; subst h; exact hiS
    have hlen3 := nodup_nat_le hnd3 hlt3
    (apply s_q; decide; rfl; (simp only [go_sem]; rfl); apply s_nil; simp only [AThen, ABlock]; refine hK _ _ ?_; clear hK K; refine AWp_seq_k (fun K hK => ?_))
    refine cond_split (by simp only [go_sem]; try rfl) (fun hz => ?_) (fun hz => ?_)
    rotate_left
    · cases hz
    (apply AWp_skip; simp only [AThen, ABlock]; refine hK _ _ ?_; clear hK K; apply AWp_block; refine AWp_seq_k (fun K hK => ?_); apply s_region)
    apply s_entryM; decide; exact (by simp only [go_sem]; try rfl); exact kr; exact km2; (rw [List.getElem?_map, hp]; rfl); (rw [List.getElem?_map, hp]; rfl)
    ((iterate 2 (apply s_q; decide; rfl; (simp only [go_sem]; rfl))); apply s_nil; simp only [AThen, ABlock]; refine hK _ _ ?_; clear hK K; apply s_region; (iterate 2 (apply s_q; decide; rfl; (simp only [go_sem]; rfl))); apply s_lit; decide; exact el_38; (simp only [go_sem]; rfl); (simp only [go_sem]; rfl); decide; apply s_append; decide; (simp only [go_sem]; rfl); (simp only [go_sem]; rfl); apply AApp_at el_38 kE kR (l := is.map fun i => S.getD i 0) (m := [k]) (g := intCells) rfl rfl tk_38 int_one (by simp; omega) (by simp; omega); intro o2 M2 hR2 hE2 hK2; apply s_q; decide; rfl; (simp only [go_sem]; rfl); apply s_nil; simp only [AThen, ABlock])
    refine ⟨(is ++ [i], o2, M2), ?_, ⟨hnd3, hlt3, hE2, hK2 m _ km1 (fun _ _ _ h => by rw [hkmE] at h; cases h), hK2 r _ kr (fun _ _ _ h => by cases h), ?_⟩, by trivial, by trivial⟩
    · simp only [List.length_append, List.length_cons, List.length_nil] at hlen3 ⊢
      omega
    · simp only
      rw [List.map_append, List.map_singleton, hkd]; exact hR2
end Go.Proofs.YtcpfgjfiacfmoaaGreatDoor

set_option linter.unusedSimpArgs false
set_option linter.unusedVariables false
namespace Go.Proofs.YtcpfgjfiacfmoaaGreatDoor
open Go Go.AL

theorem pos_count {α : Type} {lt : α → α → Bool} (hi : ∀ a, lt a a = false) (ha : ∀ a c, lt a c = true → lt c a = false) {s : List α} (hs : s.Pairwise (fun a c => lt a c = true)) {n : Nat} {x : α} (hn : s[n]? = some x) :
    (s.filter fun k => lt k x).length = n := by
  obtain ⟨h1, h2⟩ := List.getElem?_eq_some_iff.1 hn
  have hd : s = s.take n ++ x :: s.drop (n + 1) := by
    rw [← h2, ← List.drop_eq_getElem_cons h1, List.take_append_drop]
  have ht : (s.take n).length = n := List.length_take_of_le (by omega)
  rw [hd] at hs
  rw [List.pairwise_append, List.pairwise_cons] at hs
  obtain ⟨_, ⟨k1, _⟩, k2⟩ := hs
  rw [hd, List.filter_append, List.filter_cons, if_neg (by rw [hi]; simp)]
  rw [List.filter_eq_self.2 (fun a h => k2 a h x (by simp)), List.filter_eq_nil_iff.2 (fun a h => by rw [ha _ _ (k1 a h)]; simp), List.append_nil, ht]
theorem sorted_one {α : Type} {lt : α → α → Bool} (hi : ∀ a, lt a a = false) (ha : ∀ a c, lt a c = true → lt c a = false) : ∀ {s t : List α}, s.Pairwise (fun a c => lt a c = true) → t.Pairwise (fun a c => lt a c = true) → s.Perm t → s = t
  | [], t, _, _, h => by rw [List.nil_perm.1 h]
  | x :: s, [], _, _, h => by have := h.length_eq; simp at this
  | x :: s, y :: t, h1, h2, h => by
    rw [List.pairwise_cons] at h1 h2
    have e : x = y := by
      have hx : x ∈ y :: t := h.mem_iff.1 (by simp)
      have hy : y ∈ x :: s := h.mem_iff.2 (by simp)
      rcases List.mem_cons.1 hx with e | hx
      · exact e
      rcases List.mem_cons.1 hy with e | hy
      · exact e.symm
      have := ha _ _ (h1.1 y hy)
      rw [h2.1 x hx] at this; cases this
    subst e
    rw [sorted_one hi ha h1.2 h2.2 (List.perm_cons _ |>.1 h)]
end Go.Proofs.YtcpfgjfiacfmoaaGreatDoor

set_option linter.unusedSimpArgs false
set_option linter.unusedVariables false
set_option maxRecDepth 100000
namespace Go.Proofs.YtcpfgjfiacfmoaaGreatDoor
open Go Go.AL
attribute [local irreducible] AOps AWp SOps AE AT ACall AApp

def ageLt (p : Pa) (a b : Nat) : Prop := (evAt p a).ts < (evAt p b).ts ∨ ((evAt p a).ts = (evAt p b).ts ∧ (nmAt p a < nmAt p b ∨ (nmAt p a = nmAt p b ∧ a < b)))
theorem age_irr (p : Pa) (a : Nat) : ¬ ageLt p a a := by
  rintro (h | ⟨_, h | ⟨_, h⟩⟩)
  · omega
  · exact lt_irr _ h
  · omega
theorem age_tr {p : Pa} {a b c : Nat} (h : ageLt p a b) (k : ageLt p b c) : ageLt p a c := by
  rcases h with h | ⟨h1, h⟩
  · rcases k with k | ⟨k1, _⟩
    · exact .inl (Int.lt_trans h k)
    · exact .inl (by rw [← k1]; exact h)
  · rcases k with k | ⟨k1, k⟩
    · exact .inl (by rw [h1]; exact k)
    · refine .inr ⟨h1.trans k1, ?_⟩
      rcases h with h | ⟨h2, h⟩
      · rcases k with k | ⟨k2, _⟩
        · exact .inl (lt_tr h k)
        · exact .inl (by rw [← k2]; exact h)
      · rcases k with k | ⟨k2, k⟩
        · exact .inl (by rw [h2]; exact k)
        · exact .inr ⟨h2.trans k2, by omega⟩
theorem age_tot (p : Pa) {a b : Nat} (hn : a ≠ b) : ageLt p a b ∨ ageLt p b a := by
  rcases Int.lt_trichotomy (evAt p a).ts (evAt p b).ts with h | h | h
  · exact .inl (.inl h)
  · rcases lt_tri (nmAt p a) (nmAt p b) with k | k | k
    · exact .inl (.inr ⟨h, .inl k⟩)
    · rcases Nat.lt_or_ge a b with m | m
      · exact .inl (.inr ⟨h, .inr ⟨k, m⟩⟩)
      · exact .inr (.inr ⟨h.symm, .inr ⟨k.symm, by omega⟩⟩)
    · exact .inr (.inr ⟨h.symm, .inl k⟩)
  · exact .inr (.inl h)
def ordI (p : Pa) (ff : Int → Int) (a b : Nat) : Int := firstNZ [cmp (ff b) (ff a), ageI p a b]
def ordLt (p : Pa) (ff : Int → Int) (a b : Nat) : Prop := ff b < ff a ∨ (ff a = ff b ∧ ageLt p a b)
theorem ordI_lt {p : Pa} {ff : Int → Int} {a b : Nat} : ordI p ff a b < 0 ↔ ordLt p ff a b := by
  rw [ordI, ordLt]
  simp only [firstNZ]
  by_cases h : cmp (ff b) (ff a) = 0
  · rw [if_pos h]
    have e := Go.AL.cmp_zero.1 h
    by_cases h2 : ageI p a b = 0
    · have hno : ¬ ageLt p a b := fun h3 => by have := age_neg.2 h3; omega
      simp [h2, hno]; omega
    · rw [if_neg h2, age_neg]
      simp only [e, Int.lt_irrefl, false_or, true_and]; rfl
  · rw [if_neg h, cmp_pos]
    have hne : ff a ≠ ff b := fun e => h (Go.AL.cmp_zero.2 e.symm)
    simp [hne]
theorem ord_irr {p : Pa} {ff : Int → Int} (a : Nat) : ¬ ordLt p ff a a := by
  rintro (h | ⟨_, h⟩)
  · omega
  · exact age_irr p a h
theorem ord_tr {p : Pa} {ff : Int → Int} {a b c : Nat} (h : ordLt p ff a b) (k : ordLt p ff b c) : ordLt p ff a c := by
  rcases h with h | ⟨h1, h⟩
  · rcases k with k | ⟨k1, _⟩
    · exact .inl (Int.lt_trans k h)
    · exact .inl (by rw [← k1]; exact h)
  · rcases k with k | ⟨k1, k⟩
    · exact .inl (by rw [h1]; exact k)
    · exact .inr ⟨h1.trans k1, age_tr h k⟩
theorem ord_tot (p : Pa) (ff : Int → Int) {a b : Nat} (hn : a ≠ b) : ordLt p ff a b ∨ ordLt p ff b a := by
  rcases Int.lt_trichotomy (ff a) (ff b) with h | h | h
  · exact .inr (.inl h)
  · rcases age_tot p hn with k | k
    · exact .inl (.inr ⟨h, k⟩)
    · exact .inr (.inr ⟨h.symm, k⟩)
  · exact .inl (.inl h)
def ltB (p : Pa) (ff : Int → Int) (a b : Int) : Bool := decide (ordI p ff a.toNat b.toNat < 0)
theorem ltB_iff {p : Pa} {ff : Int → Int} {a b : Int} : ltB p ff a b = true ↔ ordLt p ff a.toNat b.toNat := by rw [ltB, decide_eq_true_iff, ordI_lt]
theorem ltB_irr (p : Pa) (ff : Int → Int) : ∀ a, ltB p ff a a = false := fun a => by
  cases h : ltB p ff a a with
  | false => rfl
  | true => exact absurd (ltB_iff.1 h) (ord_irr _)
theorem ltB_asy (p : Pa) (ff : Int → Int) : ∀ a c, ltB p ff a c = true → ltB p ff c a = false := fun a c h => by
  cases k : ltB p ff c a with
  | false => rfl
  | true => exact absurd (ord_tr (ltB_iff.1 h) (ltB_iff.1 k)) (ord_irr _)
theorem ltB_tot (p : Pa) (ff : Int → Int) {a c : Int} (ha : 0 ≤ a) (hc : 0 ≤ c) (hn : a ≠ c) : ltB p ff a c = true ∨ ltB p ff c a = true := by
  rcases ord_tot p ff (a := a.toNat) (b := c.toNat) (by omega) with h | h
  · exact .inl (ltB_iff.2 h)
  · exact .inr (ltB_iff.2 h)
def Ordered (p : Pa) (ff : Int → Int) (l s : List Int) : Prop := s.Pairwise (fun a c => ltB p ff a c = true) ∧ s.Perm l
theorem ordered_one {p : Pa} {ff : Int → Int} {l s t : List Int} (h : Ordered p ff l s) (k : Ordered p ff l t) : s = t :=
  sorted_one (ltB_irr p ff) (ltB_asy p ff) h.1 k.1 (h.2.trans k.2.symm)
theorem ord_swo (p : Pa) (ff : Int → Int) (l : List Int) (n : Nat) : Swo n (fun i j => ordI p ff (l.getD i 0).toNat (l.getD j 0).toNat) where
  irrefl := fun i _ h => ord_irr _ (ordI_lt.1 h)
  trans := fun i j k _ _ _ h1 h2 => ordI_lt.2 (ord_tr (ordI_lt.1 h1) (ordI_lt.1 h2))
  ntrans := fun i j k _ _ _ h1 h2 h3 => by
    simp only [ordI_lt] at h1 h2 h3
    by_cases e1 : (l.getD i 0).toNat = (l.getD j 0).toNat
    · rw [e1] at h3; exact h2 h3
    · by_cases e2 : (l.getD j 0).toNat = (l.getD k 0).toNat
      · rw [← e2] at h3; exact h1 h3
      · have k1 := (ord_tot p ff e1).resolve_left h1
        have k2 := (ord_tot p ff e2).resolve_left h2
        exact ord_irr _ (ord_tr h3 (ord_tr k2 k1))
theorem perm_getD {l : List Int} {q : List Nat} (hq : q.Perm (List.range l.length)) : (q.map fun i => l.getD i 0).Perm l := by
  have h2 : (List.range l.length).map (fun i => l.getD i 0) = l := by
    apply List.ext_getElem?
    intro i
    by_cases hi : i < l.length
    · simp [hi]
    · simp [hi]
  have := hq.map (fun i => l.getD i 0)
  rwa [h2] at this
theorem ordered_of {p : Pa} {ff : Int → Int} {l : List Int} {q : List Nat} (hnd : l.Nodup) (hpos : ∀ x ∈ l, 0 ≤ x) (hq : q.Perm (List.range l.length))
    (hs : ∀ i j a d : Nat, i < j → q[i]? = some a → q[j]? = some d → ¬ ordI p ff (l.getD d 0).toNat (l.getD a 0).toNat < 0) : Ordered p ff l (q.map fun i => l.getD i 0) := by
  have hp := perm_getD hq
  refine ⟨?_, hp⟩
  rw [List.pairwise_iff_getElem]
  intro i j hi hj hij
  have hi' : i < q.length := by simpa using hi
  have hj' : j < q.length := by simpa using hj
  have hqn := hq.nodup_iff.2 List.nodup_range
  have hne : q[i] ≠ q[j] := fun e => by have := (List.getElem_inj hqn).1 e; omega
  have ha : q[i] < l.length := List.mem_range.1 (hq.mem_iff.1 (List.getElem_mem hi'))
  have hb : q[j] < l.length := List.mem_range.1 (hq.mem_iff.1 (List.getElem_mem hj'))
  have h1 := hs i j _ _ hij (List.getElem?_eq_getElem hi') (List.getElem?_eq_getElem hj')
  rw [ordI_lt] at h1
  simp only [List.getElem_map]
  have ea : l.getD q[i] 0 = l[q[i]] := getD_some (List.getElem?_eq_getElem ha)
  have eb : l.getD q[j] 0 = l[q[j]] := getD_some (List.getElem?_eq_getElem hb)
  rw [ea, eb] at h1 ⊢
  have hv : l[q[i]] ≠ l[q[j]] := fun e => hne ((List.getElem_inj hnd).1 e)
  rcases ltB_tot p ff (hpos _ (List.getElem_mem ha)) (hpos _ (List.getElem_mem hb)) hv with h | h
  · exact h
  · exact absurd (ltB_iff.1 h) h1
theorem perm_cellsI {l : List Int} {q : List Nat} (hq : q.Perm (List.range l.length)) : (q.map fun i => (l.map intCells).getD i []) = (q.map fun i => l.getD i 0).map intCells := by
  rw [List.map_map]
  apply List.map_congr_left
  intro i hi
  have h := List.mem_range.1 (hq.mem_iff.1 hi)
  obtain ⟨x, hx⟩ := gete h
  show (l.map intCells).getD i [] = intCells (l.getD i 0)
  rw [getD_some hx, getD_some (int_at hx)]; rfl
def mkN (ff : Int → Int) (S : List Int) : List (Int × AV) := S.map fun k => (k, .v (.int .i64 (ff k)))
theorem mkN_find (ff : Int → Int) (k : Int) : ∀ S : List Int, kfind k (mkN ff S) = if k ∈ S then some (.v (.int .i64 (ff k))) else none
  | [] => rfl
  | x :: S => by
    have ih := mkN_find ff k S
    rw [mkN] at ih ⊢
    rw [List.map_cons, kfind, ih]
    by_cases e : x = k
    · subst e; simp
    · simp [e, Ne.symm e]
theorem mkN_put {ff : Int → Int} {k : Int} : ∀ {S : List Int}, k ∉ S → kput k (.v (.int .i64 (ff k))) (mkN ff S) = mkN ff (S ++ [k])
  | [], _ => rfl
  | x :: S, h => by
    have ih := mkN_put (ff := ff) (k := k) (S := S) (fun hm => h (by simp [hm]))
    rw [mkN] at ih
    rw [mkN, List.map_cons, kput, if_neg (fun e => h (by have e : x = k := e; simp [e])), ih]
    rfl
theorem setL_nd (n : Nat) (l : List Int) : (setL n l).Nodup := (setL_lt n l).imp fun h e => by subst e; exact absurd h (Int.lt_irrefl _)
theorem setL_pos {n : Nat} {l : List Int} : ∀ x ∈ setL n l, 0 ≤ x ∧ x < n := fun x hx => (setL_mem.1 hx).2
theorem fresh_at {l : List Int} (hnd : l.Nodup) {i : Nat} {x : Int} (hx : l[i]? = some x) : x ∉ l.take i := fun hm => by
  obtain ⟨j, hj, e⟩ := List.mem_take_iff_getElem.1 hm
  obtain ⟨hi, e2⟩ := List.getElem?_eq_some_iff.1 hx
  rw [← e2] at e
  have := (List.getElem_inj hnd).1 e
  omega
def nearF (p : Pa) (line : List Int) : Int → Int := fun k => nearA p line k
def ByLine (p : Pa) (l : List Int) (power : Int) (s : List Int) : Prop := if rightB p = true then Ordered p (nearF p (lineA p power)) (setL p.events.length l) s else s = []
abbrev pCells (p : Pa) : List AV := [.sl false (p.names.map strCells), .sl false (p.events.map Ev.cells), .sl false (p.prev.map rowCells), .sl false (p.auth.map rowCells), .sl false (p.denied.map bolCells)]
set_option maxHeartbeats 4000000 in
theorem byLine_c (p : Pa) (hw : p.Wide) (hn : p.events.length ≤ 1000) (t : Bool) (l : List Int) (hl : l.length ≤ 1000) (power : Int) (H : AHeap) (Kc : AV → AHeap → Prop) (h : ∀ s, ByLine p l power s → Kc (.sl false (s.map intCells)) H) : ACall X 30 [.agg p.cells, .sl t (l.map intCells), .v (.int .i64 power)] H Kc := by
  refine ACall.grE (e := 3) (sz := 1) (S := fun es => ∃ s, es = s.map intCells ∧ ByLine p l power s) (fun es hs => by obtain ⟨s, rfl, hs⟩ := hs; exact h s hs) ?_
  clear h
  have hR : ∀ (H : AHeap) (K : AV → AHeap → Prop), K (.v (.bool (rightB p))) H → ACall X 25 [.agg (pCells p)] H K := fun H K hK => right_c p hw H K hK
  have hL : ∀ (H : AHeap) (K : AV → AHeap → Prop), K (.sl false ((lineA p power).map intCells)) H → ACall X 21 [.agg (pCells p), .v (.int .i64 power)] H K := fun H K hK => line_c p hw hn power H K hK
  have hT : ∀ (H : AHeap) (K : AV → AHeap → Prop), (∀ s L, Ext H L → RowAt 3 1 H L ((setL p.events.length l).map intCells) s → K s L) → ACall X 43 [.agg (pCells p), .sl t (l.map intCells)] H K := fun H K hK => those_r p hw t l hl H K hK
  have hll := lineA_len (p := p) (i := power)
  have hN : ∀ (i : Int) (H : AHeap) (K : AV → AHeap → Prop), K (.v (.int .i64 (nearA p (lineA p power) i))) H → ACall X 23 [.agg (pCells p), .sl false ((lineA p power).map intCells), .v (.int .i64 i)] H K := fun i H K hK => near_c p hw hn false (lineA p power) (by omega) i H K hK
  rw [Pa.cells]
  refine ACall_intro Tryz.func30 rfl (by kernel_rfl) (by rw [Tryz.ntmps30]; simp) ?_; rw [Tryz.ntmps30]; simp only [frame0, Nat.reduceAdd]
  refine AWp_seq_k (fun K hK => ?_); apply s_region
  apply s_box; decide; exact (by simp only [go_sem]; try rfl); exact (by simp only [go_sem]; try rfl); intro q hq
  generalize hgenq : AHeap.put q _ H = M; obtain ⟨g1, hextq⟩ := gen_ex hgenq hq; have hE := hextq; clear hextq hgenq
  have hHq : H.get q = none := hq
  (apply s_q; decide; rfl; (simp only [go_sem, g1]; rfl); apply s_nil; simp only [AThen, ABlock]; refine hK _ _ ?_; clear hK K; (iterate 2 (refine AWp_seq_k (fun K hK => ?_))); apply s_region; apply s_q; decide; rfl; (simp only [go_sem, g1]; rfl); apply s_call; decide; (simp only [go_sem, g1]; rfl); (simp only [go_sem, g1]; rfl); apply hR; apply s_q; decide; rfl; (simp only [go_sem, g1]; rfl); apply s_nil; simp only [AThen, ABlock]; refine hK _ _ ?_; clear hK K)
  refine cond_split (by simp only [go_sem]; try rfl) (fun hc => ?_) (fun hc => ?_)
  · have hc : rightB p = false := by simpa using hc
    (refine AWp_seq_k (fun K hK => ?_); apply s_region; apply s_q; decide; rfl; (simp only [go_sem]; rfl); apply s_nil; simp only [AThen, ABlock]; refine hK _ _ ?_; clear hK K; apply AWp_ret; simp only [AThen, ABlock]; apply end_ret; rfl; simp only [AFr.get, reduceIte, Nat.reduceEqDiff])
    exact ⟨[], ⟨[], rfl, by rw [ByLine, if_neg (by rw [hc]; decide)]⟩, M, hE, .inl ⟨rfl, rfl, rfl⟩⟩
  have hc : rightB p = true := by simpa using hc
  have hr := right_true hc
  apply AWp_skip; simp only [AThen, ABlock]; refine hK _ _ ?_; clear hK K
  refine AWp_seq_k (fun K hK => ?_); apply s_region
  ((iterate 2 (apply s_q; decide; rfl; (simp only [go_sem, g1]; rfl))); apply s_call; decide; (simp only [go_sem, g1]; rfl); (simp only [go_sem, g1]; rfl); apply hL; apply s_q; decide; rfl; (simp only [go_sem, g1]; rfl))
  apply s_nil; simp only [AThen, ABlock]; refine hK _ _ ?_; clear hK K
  refine AWp_seq_k (fun K hK => ?_); apply s_region
  apply s_imap; decide; exact mp_86; intro mb hmb
  generalize hgenq : AHeap.put mb _ M = M1; obtain ⟨gm, hextq⟩ := gen_ex hgenq hmb; have g1 := hextq _ _ g1; have hE := Ext.trans hE hextq; clear hextq hgenq
  have hHm : H.get mb = none := none_of_ext (by assumption) hmb
  apply s_alloc; decide; exact zc_86; intro tb htb
  (apply s_store; (simp only [go_sem]; rfl); (simp only [go_sem]; rfl); (simp only [go_sem]; rfl))
  apply s_nil; simp only [AThen, ABlock]; refine hK _ _ ?_; clear hK K
  generalize hgenq : AHeap.put tb _ M1 = M2; obtain ⟨gt, hextq⟩ := gen_ex hgenq htb; have g1 := hextq _ _ g1; have gm := hextq _ _ gm; have hE := Ext.trans hE hextq; clear hextq hgenq
  have hHt : H.get tb = none := none_of_ext (by assumption) htb
  (refine AWp_seq_k (fun K hK => ?_); apply s_region; (iterate 2 (apply s_q; decide; rfl; (simp only [go_sem, g1]; rfl))); apply s_call; decide; (simp only [go_sem, g1]; rfl); (simp only [go_sem, g1]; rfl); apply hT; intro a L0 hE0 hR0; apply s_q; decide; rfl; (simp only [go_sem, g1]; rfl); apply s_nil; simp only [AThen, ABlock]; refine hK _ _ ?_; clear hK K; (iterate 2 (refine AWp_seq_k (fun K hK => ?_))); apply s_region; apply s_q; decide; rfl; (simp only [go_sem, g1]; rfl))
  have hR0 := RowAt.base hR0 hE
  have hE0' := hE.trans hE0
  have hq0 := hE0 _ _ g1
  have hm0 := hE0 _ _ gm
  have ht0 := hE0 _ _ gt
  have hln := setL_len p.events.length l
  have hnd := setL_nd p.events.length l
  have hpo := setL_pos (n := p.events.length) (l := l)
  have hBy : ∀ s, Ordered p (nearF p (lineA p power)) (setL p.events.length l) s → ByLine p l power s := fun s hs => by rw [ByLine, if_pos hc]; exact hs
  generalize setL p.events.length l = ls at hR0 hln hnd hpo hBy
  have hlo := rowAt_len (e' := 3) (s' := some 1) hR0 L0
  rw [List.length_map] at hlo
  ((apply s_q; decide; rfl; (simp only [go_sem]; exact hlo)); apply s_q; decide; rfl; (simp only [go_sem]; rfl); apply s_nil; simp only [AThen, ABlock]; refine hK _ _ ?_; clear hK K; apply AWp_block)
  clear g1 gm gt hE hE0 hlo
  refine AWp_loop_s (σ := Nat × AHeap) [3, 7, 8, 9, 22, 23, 24] (fun s => [ptrTo q, .sl false ((lineA p power).map intCells), ptrTo tb, a, a, .v (.int .i64 (ls.length : Nat)), .v (.int .i64 (s.1 : Int))]) (fun s => s.2) (fun s => ls.length - s.1)
    (fun s => s.1 ≤ ls.length ∧ s.2.get q = some (.box 35 (pCells p)) ∧ s.2.get tb = some (.box 86 [.v (.map (some mb))]) ∧ s.2.get mb = some (.imap .i64 (mkN (nearF p (lineA p power)) (ls.take s.1))) ∧ Ext H s.2 ∧ RowAt 3 1 H s.2 (ls.map intCells) a)
    (0, L0) ⟨Nat.zero_le _, hq0, ht0, hm0, hE0', hR0⟩ rfl rfl (fun s hs => ?_)
  obtain ⟨i, L⟩ := s
  obtain ⟨hi, hqL, htL, hmL, hEL, hRL⟩ := hs
  clear hq0 ht0 hm0 hE0' hR0
  simp only [List.zip_cons_cons, List.zip_nil_right] at hi hqL htL hmL hEL hRL ⊢
  (refine AWp_seq_k (fun K hK => ?_); apply s_region; apply s_q; decide; rfl; (simp only [go_sem]; rfl); apply s_nil; simp only [AThen, ABlock]; refine hK _ _ ?_; clear hK K; refine AWp_seq_k (fun K hK => ?_))
  refine cond_split (by simp only [go_sem]; try rfl) (fun hd => ?_) (fun hd => ?_)
  · have hlt : i < ls.length := by simpa using hd
    obtain ⟨x, hx⟩ := gete hlt
    obtain ⟨pp, hp, hpc⟩ := (arr_of hRL).at_ hx
    have hmt : mb ≠ tb := by rintro rfl; rw [hmL] at htL; cases htL
    have hmq : mb ≠ q := by rintro rfl; rw [hmL] at hqL; cases hqL
    (apply AWp_skip; simp only [AThen, ABlock]; refine hK _ _ ?_; clear hK K; refine AWp_seq_k (fun K hK => ?_); apply AWp_block; refine AWp_seq_k (fun K hK => ?_); apply s_region; (apply s_q; decide; rfl; (simp only [pvK, AFr.ev, AFr.get, reduceIte, Nat.reduceEqDiff, tk_38]; exact hp)); (apply s_q; decide; rfl; (simp only [pvK, AFr.ev, AFr.get, reduceIte, Nat.reduceEqDiff, lay_3, hpc, Option.bind_some, ldK]; rfl)); apply s_q; decide; rfl; (simp only [go_sem]; rfl); apply s_nil; simp only [AThen, ABlock]; refine hK _ _ ?_; clear hK K)
    apply AWp_drawA [0, 1, 2, 3, 4, 5] [6] 0 (by exact mixed); kernel_rfl; (simp only [go_sem]; rfl); (simp only [go_sem]; rfl)
    ((iterate 5 (apply e_q; decide; (simp only [go_sem, hqL, htL, hmL]; rfl))); apply e_call; decide; (simp only [go_sem, hqL, htL, hmL]; rfl); (simp only [go_sem, hqL, htL, hmL]; rfl); (apply hN; exact ⟨rfl, rfl⟩); apply e_nil; apply t_mapput; rfl; (simp only [go_sem, hqL, htL, hmL]; rfl); (simp only [go_sem, hqL, htL, hmL]; rfl); (simp only [go_sem, hqL, htL, hmL]; rfl); (simp only [go_sem, hqL, htL, hmL]; rfl); apply t_nil; simp only [AThen, ABlock]; refine hK _ _ ?_; clear hK K; apply s_region; (iterate 2 (apply s_q; decide; rfl; (simp only [go_sem, hqL, htL, hmL]; rfl))); apply s_nil; simp only [AThen, ABlock])
    have k1 := get_other (x := .imap .i64 (kput x (.v (.int .i64 (nearA p (lineA p power) x))) (mkN (nearF p (lineA p power)) (ls.take i)))) hqL (Ne.symm hmq)
    have k2 := get_other (x := .imap .i64 (kput x (.v (.int .i64 (nearA p (lineA p power) x))) (mkN (nearF p (lineA p power)) (ls.take i)))) htL (Ne.symm hmt)
    have k3 := hEL.over (o := .imap .i64 (kput x (.v (.int .i64 (nearA p (lineA p power) x))) (mkN (nearF p (lineA p power)) (ls.take i)))) hHm
    have k4 := hRL.put hmL (fun _ _ _ h => by cases h) (o' := .imap .i64 (kput x (.v (.int .i64 (nearA p (lineA p power) x))) (mkN (nearF p (lineA p power)) (ls.take i))))
    refine ⟨(i + 1, L.put mb (.imap .i64 (kput x (.v (.int .i64 (nearA p (lineA p power) x))) (mkN (nearF p (lineA p power)) (ls.take i))))), by simp only; omega, ⟨by simp only; omega, k1, k2, ?_, k3, k4⟩, ?_, by rfl⟩
    · simp only
      rw [AHeap.get_put_same, take_succ hx]
      exact congrArg (fun e => some (AObj.imap .i64 e)) (mkN_put (ff := nearF p (lineA p power)) (fresh_at hnd hx))
    · simp only [getAll, List.map_cons, List.map_nil, AFr.get, reduceIte, Nat.reduceEqDiff]
      rw [wrapS hlt (by omega)]; try rfl
  have hge : ls.length ≤ i := by simpa using hd
  rw [List.take_of_length_le hge] at hmL
  apply AWp_exit; simp only [AThen, ABlock, reduceIte, Nat.reduceEqDiff]; clear hK K; refine hK _ _ ?_; clear hK K
  refine AWp_cut [3, 8, 9] (vs := [ptrTo q, ptrTo tb, a]) rfl ?_
  simp only [List.zip_cons_cons, List.zip_nil_right]
  obtain ⟨F, hF⟩ : ∃ F, nearF p (lineA p power) = F := ⟨_, rfl⟩
  rw [hF] at hmL hBy
  refine AWp.hold hmL (fun ents clock => ?_)
  have hmt : mb ≠ tb := by rintro rfl; rw [hmL] at htL; cases htL
  have hmq : mb ≠ q := by rintro rfl; rw [hmL] at hqL; cases hqL
  have htq : tb ≠ q := by rintro rfl; rw [htL] at hqL; cases hqL
  have k1 := get_other (x := kmOf ents clock (mkN F ls)) hqL (Ne.symm hmq)
  have k2 := get_other (x := kmOf ents clock (mkN F ls)) htL (Ne.symm hmt)
  have k3 := AHeap.get_put_same mb (kmOf ents clock (mkN F ls)) L
  have k4 := hEL.over (o := kmOf ents clock (mkN F ls)) hHm
  have k5 := hRL.put hmL (fun _ _ _ h => by cases h) (o' := kmOf ents clock (mkN F ls))
  clear hqL htL hmL hEL hRL
  have hgen : ∃ L1, L.put mb (kmOf ents clock (mkN F ls)) = L1 := ⟨_, rfl⟩
  obtain ⟨L1, hL1⟩ := hgen
  rw [hL1] at k1 k2 k3 k4 k5
  rw [show AHeap.put mb (.kmap ents clock ((mkN F ls).map fun p => .v (.int .i64 p.1)) ((mkN F ls).map (·.2))) L = L1 from hL1]
  refine AWp.freeze (t := 8) k2 rfl (by decide) ?_
  have m1 : (L1.del tb).get q = some (.box 35 (pCells p)) := by rw [AHeap.get_del, if_neg (Ne.symm htq)]; exact k1
  refine AWp.freeze (t := 3) m1 rfl (by decide) ?_
  have n3 : ((L1.del tb).del q).get mb = some (kmOf ents clock (mkN F ls)) := by rw [AHeap.get_del, if_neg hmq, AHeap.get_del, if_neg hmt]; exact k3
  have n4 : Ext H ((L1.del tb).del q) := (k4.del hHt).del hHq
  have n5 := (k5.del k2 (fun _ _ _ h => by cases h)).del m1 (fun _ _ _ h => by cases h)
  generalize (L1.del tb).del q = L2 at n3 n4 n5 ⊢
  clear k1 k2 k3 k4 k5 m1
  (refine AWp_seq_k (fun K hK => ?_); apply s_region; (iterate 2 (apply s_q; decide; rfl; (simp only [go_sem]; rfl))))
  apply s_call; decide; exact (by simp only [go_sem]; try rfl); exact (by simp only [go_sem]; try rfl)
  refine ACall_sortAtM (Hc := AHeap.nil.put mb (kmOf ents clock (mkN F ls))) (k := 1) (mkA := fun bs => bs.headD .top) (c := fun i j => ordI p F (ls.getD i 0).toNat (ls.getD j 0).toNat) sorts62 (by kernel_rfl) (by kernel_rfl) mk_one n4 n5 (by rw [List.length_map]; omega) (fun x hx => ?_) (ord_swo p F ls _) (fun d o hd => ?_) (fun i j x y hx hy K2 hK2 => ?_) (fun pm L5 hp1 hp2 hp3 hp4 hp5 => ?_)
  · obtain ⟨d, _, rfl⟩ := List.mem_map.1 hx; rfl
  · rw [AHeap.get_put] at hd
    split at hd
    · rename_i e; subst e; cases hd
      exact ⟨(fun _ h => by cases h), n3, _, _, _, _, rfl⟩
    · cases hd
  · obtain ⟨a1, ha⟩ := gete (l := ls) (i := i) (by have := (List.getElem?_eq_some_iff.1 hx).1; simpa using this)
    obtain ⟨b1, hb⟩ := gete (l := ls) (i := j) (by have := (List.getElem?_eq_some_iff.1 hy).1; simpa using this)
    rw [int_at ha] at hx
    rw [int_at hb] at hy
    cases hx; cases hy
    have ha2 := hpo a1 (List.mem_of_getElem? ha)
    have hb2 := hpo b1 (List.mem_of_getElem? hb)
    have fa := mkN_find F a1 ls
    have fb := mkN_find F b1 ls
    rw [if_pos (List.mem_of_getElem? ha)] at fa
    rw [if_pos (List.mem_of_getElem? hb)] at fb
    rw [getD_some ha, getD_some hb] at hK2
    obtain ⟨an, rfl⟩ : ∃ n : Nat, a1 = n := ⟨a1.toNat, by omega⟩
    obtain ⟨bn, rfl⟩ : ∃ n : Nat, b1 = n := ⟨b1.toNat, by omega⟩
    exact cmpN_c p hr mb ents clock (mkN F ls) an bn (by omega) (by omega) (F an) (F bn) fa fb _ (AHeap.get_put_same _ _ _) K2 hK2
  · rw [List.length_map] at hp1
    rw [perm_cellsI hp1] at hp3
    have hord := ordered_of (p := p) (ff := F) hnd (fun x hx => (hpo x hx).1) hp1 hp2
    (apply s_nil; simp only [AThen, ABlock]; refine hK _ _ ?_; clear hK K; refine AWp_seq_k (fun K hK => ?_); apply s_region; (iterate 2 (apply s_q; decide; rfl; (simp only [go_sem]; rfl))); apply s_nil; simp only [AThen, ABlock]; refine hK _ _ ?_; clear hK K; apply AWp_ret)
    obtain ⟨L6, h1, h2⟩ := hp3.toGr hp4
    exact ⟨_, ⟨_, rfl, hBy _ hord⟩, L6, h1, h2⟩
end Go.Proofs.YtcpfgjfiacfmoaaGreatDoor
