/-
  The contracts of a board's users, of all its marks, and of comparing rows of marks.
-/
import Derived.Test.YtpdfgmedbphmkaaDoorW26I
import Derived.Test.YtpdfgmedbphmkaaDoorIter26
import Derived.Test.YtpdfgmedbphmkaaDoorAL2
set_option linter.unusedSimpArgs false
set_option linter.unusedVariables false
set_option maxRecDepth 100000
namespace Go.Proofs.YtpdfgmedbphmkaaDoor
open Go Go.AL
attribute [local irreducible] AOps AWp SOps AE AT ACall AApp

/-- users and marks of a board within bounds -/
def Bd (ms : List (List UInt8 × Mark)) : Prop := ms.length ≤ 1000000 ∧ ∀ x ∈ ms, x.1.length < 4294967281

theorem keys_c (q : Nat) (H : AHeap) (K : AV → AHeap → Prop) (h : ∀ c, H.get c = none → K (.fn (.func 38) [] [ptrTo c]) (H.put c (.box 38 [.v (.map (some q))]))) : ACall X 29 [.v (.map (some q))] H K := by
  refine ACall_intro Tryd.func29 rfl (by kernel_rfl) (by rw [Tryd.ntmps29]; simp) ?_; rw [Tryd.ntmps29]; simp only [frame0, Nat.reduceAdd]
  (refine AWp_seq_k (fun K hK => ?_); apply s_region; apply s_box; decide; (simp only [go_sem]; rfl); (simp only [go_sem]; rfl); intro b hb; apply s_q; decide; rfl; (simp only [go_sem]; rfl); apply s_nil; simp only [AThen, ABlock]; refine hK _ _ ?_; clear hK K; refine AWp_seq_k (fun K hK => ?_); apply s_region; (iterate 2 (apply s_q; decide; rfl; (simp only [go_sem]; rfl))); apply s_nil; simp only [AThen, ABlock]; refine hK _ _ ?_; clear hK K; apply AWp_ret)
  exact h _ (by assumption)
theorem bytes_map (l : List (List UInt8)) : (l.map fun x => [AV.s x]) = l.map bytesCells := rfl
theorem users_c (p q : Nat) (ms : List (List UInt8 × Mark)) (hbd : Bd ms) (H : AHeap) (hB : IsBoard H p q ms) (K : AV → AHeap → Prop)
    (h : K (.sl false ((sortL (ms.map (·.1))).map bytesCells)) H) : ACall X 20 [.v (.pointer (some ⟨p, 0, none⟩))] H K := by
  refine ACall.gr (e := 9) (sz := 1) h ?_
  obtain ⟨hB1, hB2⟩ := hB
  refine ACall_intro Tryd.func20 rfl (by kernel_rfl) (by rw [Tryd.ntmps20]; simp) ?_; rw [Tryd.ntmps20]; simp only [frame0, Nat.reduceAdd]
  (refine AWp_seq_k (fun K hK => ?_); apply s_region; apply s_q; decide; rfl; (simp only [go_sem, hB1]; rfl); apply s_nil; simp only [AThen, ABlock]; refine hK _ _ ?_; clear hK K; (iterate 2 (refine AWp_seq_k (fun K hK => ?_))); apply s_region; apply s_q; decide; rfl; (simp only [go_sem, hB1]; rfl); apply s_call; decide; (simp only [go_sem, hB1]; rfl); (simp only [go_sem, hB1]; rfl); apply made_c p q _ hB1; apply s_q; decide; rfl; (simp only [go_sem, hB1]; rfl); apply s_nil; simp only [AThen, ABlock]; refine hK _ _ ?_; clear hK K)
  refine cond_split (by simp only [go_sem]; try rfl) (fun hc => ?_) (fun hc => ?_)
  · cases hc
  (apply AWp_skip; simp only [AThen, ABlock]; refine hK _ _ ?_; clear hK K; refine AWp_seq_k (fun K hK => ?_); apply s_region; (iterate 4 (apply s_q; decide; rfl; (simp only [go_sem, hB1]; rfl))); apply s_call; decide; (simp only [go_sem, hB1]; rfl); (simp only [go_sem, hB1]; rfl); apply keys_c; intro B hBn)
  have hn : (ents ms).length ≤ 1000000000000 := by simp [ents]; have := hbd.1; omega
  have hl : ∀ x ∈ ents ms, x.1.length ≤ maxLen := by
    intro x hx
    simp only [ents, List.mem_map] at hx
    obtain ⟨y, hy, rfl⟩ := hx
    exact Nat.le_trans (Nat.le_of_lt (hbd.2 y hy)) (by decide)
  (apply s_call; decide; (simp only [go_sem]; rfl); (simp only [go_sem]; rfl); apply ACall_sortedKeysG (fun h => h) Tryd.sortedKeys Tryd.underlying9 (by kernel_rfl) (AHeap.get_put_same B _ _) (get_fresh hB2 hBn) hn hl; intro a L hG; apply s_q; decide; rfl; (simp only [go_sem]; rfl); apply s_nil; simp only [AThen, ABlock]; refine hK _ _ ?_; clear hK K; apply AWp_ret)
  have e : (ents ms).map (·.1) = ms.map (·.1) := by simp [ents]
  rw [e] at hG
  exact ⟨H.put B (.box 38 [.v (.map (some q))]), Ext.fresh hBn, hG⟩

def allOf (ms : List (List UInt8 × Mark)) : List Mark := (sortL (ms.map (·.1))).map fun u => getA u ms
theorem afind_mem {α : Type} {k : List UInt8} : ∀ {ms : List (List UInt8 × α)}, k ∈ ms.map (·.1) → ∃ x, afind k ms = some x
  | p :: ms, h => by
    simp only [afind]
    split
    · exact ⟨_, rfl⟩
    · rename_i hne
      rw [List.map_cons, List.mem_cons] at h
      exact afind_mem (h.resolve_left (fun e => hne e.symm))
theorem mark_one (a : Mark) : a.cells.length = 3 ∧ a.cells.all AV.one = true := ⟨rfl, rfl⟩

theorem all_c (p q : Nat) (ms : List (List UInt8 × Mark)) (hbd : Bd ms) (H : AHeap) (hB : IsBoard H p q ms) (K : AV → AHeap → Prop)
    (h : K (.sl false ((allOf ms).map Mark.cells)) H) : ACall X 9 [.v (.pointer (some ⟨p, 0, none⟩))] H K := by
  refine ACall.gr (e := 24) (sz := 3) h ?_
  obtain ⟨us, hus⟩ : ∃ us, sortL (ms.map (·.1)) = us := ⟨_, rfl⟩
  have hul : us.length ≤ 1000000 := by rw [← hus, sortL_length, List.length_map]; exact hbd.1
  have hmem : ∀ u ∈ us, ∃ x, afind u ms = some x := fun u hu => afind_mem ((sortL_perm _).mem_iff.1 (by rw [hus]; exact hu))
  refine ACall_intro Tryd.func9 rfl (by kernel_rfl) (by rw [Tryd.ntmps9]; simp) ?_; rw [Tryd.ntmps9]; simp only [frame0, Nat.reduceAdd]
  (refine AWp_seq_k (fun K hK => ?_); apply s_region; apply s_q; decide; rfl; (simp only [go_sem]; rfl); apply s_nil; simp only [AThen, ABlock]; refine hK _ _ ?_; clear hK K; refine AWp_seq_k (fun K hK => ?_); apply s_region; apply s_q; decide; rfl; (simp only [go_sem]; rfl); apply s_nil; simp only [AThen, ABlock]; refine hK _ _ ?_; clear hK K; (iterate 2 (refine AWp_seq_k (fun K hK => ?_))); apply s_region; apply s_q; decide; rfl; (simp only [go_sem]; rfl); apply s_call; decide; (simp only [go_sem]; rfl); (simp only [go_sem]; rfl); apply users_c p q ms hbd _ hB; (iterate 2 (apply s_q; decide; rfl; (simp only [go_sem]; rfl))); apply s_nil; simp only [AThen, ABlock]; refine hK _ _ ?_; clear hK K; apply AWp_block)
  rw [hus]
  refine AWp_loop_s (σ := Nat × AV × AHeap) [0, 3, 7, 8, 9] (fun s => [.v (.pointer (some ⟨p, 0, none⟩)), s.2.1, .sl false (us.map bytesCells), .v (.int .i64 us.length), .v (.int .i64 s.1)]) (fun s => s.2.2) (fun s => us.length - s.1) (fun s => s.1 ≤ us.length ∧ Gr 24 3 H (((us.take s.1).map fun u => getA u ms).map Mark.cells) s.2.1 s.2.2) (0, .sl true [], H) ⟨Nat.zero_le _, .inl ⟨rfl, rfl, rfl⟩⟩ rfl rfl (fun s hs => ?_)
  obtain ⟨i, a, L⟩ := s
  obtain ⟨hi, hG⟩ := hs
  simp only [List.zip_cons_cons, List.zip_nil_right] at hi hG ⊢
  (refine AWp_seq_k (fun K hK => ?_); apply s_region; apply s_q; decide; rfl; (simp only [go_sem]; rfl); apply s_nil; simp only [AThen, ABlock]; refine hK _ _ ?_; clear hK K; refine AWp_seq_k (fun K hK => ?_))
  refine cond_split (by simp only [go_sem]; try rfl) (fun hd => ?_) (fun hd => ?_)
  · have hlt : i < us.length := by simpa using hd
    obtain ⟨u, hm⟩ : ∃ a, us[i]? = some a := ⟨_, List.getElem?_eq_getElem hlt⟩
    have hg : (us.map bytesCells)[i]? = some [.s u] := by rw [List.getElem?_map, hm]; rfl
    obtain ⟨x, hx⟩ := hmem u (List.mem_of_getElem? hm)
    have hk : kfind u (ents ms) = some (.agg x.cells) := by rw [kfind_ents, hx]; rfl
    have hBL := hB.ext hG.ext
    have hq1 := hBL.map
    have hb1 := hBL.box
    (apply AWp_skip; simp only [AThen, ABlock]; refine hK _ _ ?_; clear hK K; refine AWp_seq_k (fun K hK => ?_); apply AWp_block; refine AWp_seq_k (fun K hK => ?_); apply s_region; (iterate 3 (apply s_q; decide; rfl; (simp only [go_sem, hg, hq1, hb1, hk, Mark.cells]; rfl))); apply s_nil; simp only [AThen, ABlock]; refine hK _ _ ?_; clear hK K; apply s_region; (iterate 7 (apply s_q; decide; rfl; (simp only [go_sem, hg, hq1, hb1, hk, Mark.cells]; rfl))); apply s_lit; decide; exact el_22; (simp only [go_sem, hg, hq1, hb1, hk, Mark.cells]; rfl); (simp only [go_sem, hg, hq1, hb1, hk, Mark.cells]; rfl); decide; apply s_append; decide; (simp only [go_sem, hg, hq1, hb1, hk, Mark.cells]; rfl); (simp only [go_sem, hg, hq1, hb1, hk, Mark.cells]; rfl); apply AApp_map el_22 hG (l := (us.take i).map fun u => getA u ms) (m := [x]) (g := Mark.cells) rfl rfl tk_22 mark_one (by simp; omega) (by simp; omega); intro s1 H1 hG1; apply s_q; decide; rfl; (simp only [go_sem, hg, hq1, hb1, hk, Mark.cells]; rfl); apply s_nil; simp only [AThen, ABlock]; refine hK _ _ ?_; clear hK K; apply s_region; (iterate 2 (apply s_q; decide; rfl; (simp only [go_sem, hg, hq1, hb1, hk, Mark.cells]; rfl))); apply s_nil; simp only [AThen, ABlock])
    refine ⟨(i + 1, s1, H1), by simp only; omega, ⟨by simp only; omega, ?_⟩, ?_, rfl⟩
    · simp only
      rw [List.take_add_one, hm]
      have : getA u ms = x := by rw [getA, hx]; rfl
      simp only [Option.toList_some, List.map_append, List.map_cons, List.map_nil, this] at hG1 ⊢
      exact hG1
    · simp only [getAll, List.map_cons, List.map_nil, AFr.get, reduceIte, Nat.reduceEqDiff]
      rw [wrapS hlt (by omega)]; try rfl
  · have hge : us.length ≤ i := by simpa using hd
    (apply AWp_exit; simp only [AThen, ABlock, reduceIte, Nat.reduceEqDiff]; clear hK K; refine hK _ _ ?_; clear hK K; refine AWp_seq_k (fun K hK => ?_); apply s_region; (iterate 2 (apply s_q; decide; rfl; (simp only [go_sem]; rfl))); apply s_nil; simp only [AThen, ABlock]; refine hK _ _ ?_; clear hK K; apply AWp_ret)
    rw [List.take_of_length_le hge] at hG
    refine ⟨H, Ext.refl H, ?_⟩
    rw [allOf, hus]
    exact hG

instance : DecidableEq Mark := fun a b =>
  if h : a.user = b.user ∧ a.at_ = b.at_ ∧ a.ts = b.ts then isTrue (by cases a; cases b; simp_all) else isFalse (fun e => h (by subst e; exact ⟨rfl, rfl, rfl⟩))

theorem eq_24 : eqT X.P 24 = some [(0, .str), (1, .int .i64), (2, .int .i64)] := by kernel_rfl
theorem same_c (t1 t2 : Bool) (l m : List Mark) (hl : l.length ≤ 1000000) (H : AHeap) (K : AV → AHeap → Prop) (h : K (.v (.bool (decide (l = m)))) H) : ACall X 8 [.sl t1 (l.map Mark.cells), .sl t2 (m.map Mark.cells)] H K := by
  refine ACall_intro Tryd.func8 rfl (by kernel_rfl) (by rw [Tryd.ntmps8]; simp) ?_; rw [Tryd.ntmps8]; simp only [frame0, Nat.reduceAdd]
  (refine AWp_seq_k (fun K hK => ?_); apply s_region; apply s_q; decide; rfl; (simp only [go_sem]; rfl); apply s_nil; simp only [AThen, ABlock]; refine hK _ _ ?_; clear hK K; (iterate 2 (refine AWp_seq_k (fun K hK => ?_))); apply s_region; (iterate 5 (apply s_q; decide; rfl; (simp only [go_sem]; rfl))); apply s_nil; simp only [AThen, ABlock]; refine hK _ _ ?_; clear hK K)
  refine cond_split (by simp only [go_sem]; try rfl) (fun hc => ?_) (fun hc => ?_)
  · (refine AWp_seq_k (fun K hK => ?_); apply s_region; apply s_q; decide; rfl; (simp only [go_sem]; rfl); apply s_nil; simp only [AThen, ABlock]; refine hK _ _ ?_; clear hK K; apply AWp_ret; simp only [AThen, ABlock]; apply end_ret; rfl; simp only [AFr.get, reduceIte, Nat.reduceEqDiff])
    refine finB h ?_
    rw [decide_eq_false]
    intro e
    subst e
    simp at hc
  · (apply AWp_skip; simp only [AThen, ABlock]; refine hK _ _ ?_; clear hK K; (iterate 2 (refine AWp_seq_k (fun K hK => ?_))); apply s_region; apply s_q; decide; rfl; (simp only [go_sem]; rfl); apply s_nil; simp only [AThen, ABlock]; refine hK _ _ ?_; clear hK K; apply AWp_block)
    have hlen : l.length = m.length := by simp at hc; omega
    refine AWp_loop_s (σ := Nat) [0, 1, 5] (fun i => [.sl t1 (l.map Mark.cells), .sl t2 (m.map Mark.cells), .v (.int .i64 i)]) (fun _ => H) (fun i => l.length - i) (fun i => i ≤ l.length ∧ l.take i = m.take i) 0 ⟨Nat.zero_le _, rfl⟩ rfl rfl (fun i hi => ?_)
    simp only [List.zip_cons_cons, List.zip_nil_right]
    ((iterate 2 (refine AWp_seq_k (fun K hK => ?_))); apply s_region; (iterate 4 (apply s_q; decide; rfl; (simp only [go_sem]; rfl))); apply s_nil; simp only [AThen, ABlock]; refine hK _ _ ?_; clear hK K)
    refine cond_split (by simp only [go_sem]; try rfl) (fun hd => ?_) (fun hd => ?_)
    · have hlt : i < l.length := by simpa using hd
      obtain ⟨a, ha⟩ : ∃ a, l[i]? = some a := ⟨_, List.getElem?_eq_getElem hlt⟩
      obtain ⟨c, hcm⟩ : ∃ a, m[i]? = some a := ⟨_, List.getElem?_eq_getElem (by omega)⟩
      have hg : (l.map Mark.cells)[i]? = some [.s a.user, .v (.int .i64 a.at_), .v (.int .i64 a.ts)] := by rw [List.getElem?_map, ha]; rfl
      have hg2 : (m.map Mark.cells)[i]? = some [.s c.user, .v (.int .i64 c.at_), .v (.int .i64 c.ts)] := by rw [List.getElem?_map, hcm]; rfl
      (apply AWp_skip; simp only [AThen, ABlock]; refine hK _ _ ?_; clear hK K; refine AWp_seq_k (fun K hK => ?_); apply AWp_block; refine AWp_seq_k (fun K hK => ?_))
      apply AWp_drawA [0, 1, 2, 3, 4, 5, 6, 7, 8] [] 0 (by exact mixed); kernel_rfl; (simp only [go_sem]; rfl); (simp only [go_sem]; rfl)
      ((iterate 9 (apply e_q; decide; (simp only [go_sem, hg, hg2, eq_24]; rfl))); apply e_nil; apply t_nil; simp only [AThen, ABlock]; refine hK _ _ ?_; clear hK K)
      refine cond_split (by simp only [go_sem]; try rfl) (fun he => ?_) (fun he => ?_)
      · (refine AWp_seq_k (fun K hK => ?_); apply s_region; apply s_q; decide; rfl; (simp only [go_sem]; rfl); apply s_nil; simp only [AThen, ABlock]; refine hK _ _ ?_; clear hK K; apply AWp_ret; simp only [AThen, ABlock]; apply end_ret; rfl; simp only [AFr.get, reduceIte, Nat.reduceEqDiff])
        refine finB h ?_
        rw [decide_eq_false]
        rintro rfl
        rw [ha] at hcm; cases hcm
        simp at he
      · (apply AWp_skip; simp only [AThen, ABlock]; refine hK _ _ ?_; clear hK K; apply s_region; (iterate 3 (apply s_q; decide; rfl; (simp only [go_sem]; rfl))); apply s_nil; simp only [AThen, ABlock])
        have hac : a = c := by
          simp at he
          cases a; cases c; simp at he ⊢; simp [he]
        subst hac
        refine ⟨i + 1, by omega, ⟨by omega, ?_⟩, ?_, by trivial⟩
        · rw [List.take_add_one, List.take_add_one, ha, hcm, hi.2]
        · simp only [getAll, List.map_cons, List.map_nil, AFr.get, reduceIte, Nat.reduceEqDiff]
          rw [wrapS hlt (by omega)]; try rfl
    · have hge : l.length ≤ i := by simpa using hd
      (apply AWp_exit; simp only [AThen, ABlock, reduceIte, Nat.reduceEqDiff]; clear hK K; refine hK _ _ ?_; clear hK K; refine AWp_seq_k (fun K hK => ?_); apply s_region; apply s_q; decide; rfl; (simp only [go_sem]; rfl); apply s_nil; simp only [AThen, ABlock]; refine hK _ _ ?_; clear hK K; apply AWp_ret)
      refine finB h ?_
      rw [decide_eq_true]
      have := hi.2
      rwa [List.take_of_length_le hge, List.take_of_length_le (by omega)] at this
end Go.Proofs.YtpdfgmedbphmkaaDoor
