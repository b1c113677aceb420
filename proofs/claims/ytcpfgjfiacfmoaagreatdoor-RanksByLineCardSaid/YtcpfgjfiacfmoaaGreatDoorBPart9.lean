/-
  Places heard by power, plain: the rows and ranks that both sides hand to Linear.
-/
import Derived.Test.YtcpfgjfiacfmoaaGreatDoorBPart8
import Derived.Test.YtcpfgjfiacfmoaaGreatDoorBPart7
import Derived.Test.YtcpfgjfiacfmoaaGreatDoorBPart6
import Derived.Test.YtcpfgjfiacfmoaaGreatDoorBAL4
set_option linter.unusedSimpArgs false
set_option linter.unusedVariables false
set_option maxRecDepth 100000
namespace Go.Proofs.YtcpfgjfiacfmoaaGreatDoor
open Go Go.AL

def levF (p : Pa) : Int → Int := fun k => levN p k.toNat
def parL (p : Pa) (ls : List Int) (x : Int) : List Nat := (List.range ls.length).filter fun k => decide (ls.getD k 0 ∈ chainL p.auth [x])
def rnkL (p : Pa) (ls : List Int) (x : Int) : Nat := (ls.filter fun y => ltB p (levF p) y x).length
def powP (p : Pa) (ls : List Int) : List (List Int) := ls.map fun x => ofN (parL p ls x)
def powR (p : Pa) (ls : List Int) : List Int := ls.map fun x => (rnkL p ls x : Int)
def powO (p : Pa) (ls : List Int) : List Int := ((refL (powP p ls) (powR p ls)).getD []).map fun k => ls.getD k.toNat 0
def powA (p : Pa) (l : List Int) : List Int := if rightB p = true then powO p (setL p.events.length l) else []
theorem parL_len (p : Pa) (ls : List Int) (x : Int) : (parL p ls x).length ≤ ls.length := by
  rw [parL]
  exact Nat.le_trans (List.length_filter_le _ _) (by rw [List.length_range]; omega)
theorem powP_len (p : Pa) (ls : List Int) : (powP p ls).length = ls.length := by rw [powP, List.length_map]
theorem powP_row {p : Pa} {ls : List Int} : ∀ r ∈ powP p ls, r.length ≤ ls.length := fun r hr => by
  rw [powP] at hr
  obtain ⟨x, _, rfl⟩ := List.mem_map.1 hr
  rw [ofN, List.length_map]; exact parL_len p ls x
theorem powR_len (p : Pa) (ls : List Int) : (powR p ls).length = ls.length := by rw [powR, List.length_map]
theorem refF_in {P : List (List Int)} {R : List Int} {n : Nat} : ∀ (k : Nat) (told l : List Int), (∀ x ∈ told, inR n x = true) → refF P R n k told = some l → ∀ x ∈ l, inR n x = true
  | 0, told, l, h, e => by rw [refF] at e; cases e; exact h
  | k + 1, told, l, h, e => by
    rw [refF] at e
    split at e
    · cases e
    · rename_i hb
      refine refF_in k _ l (fun x hx => ?_) e
      rcases List.mem_append.1 hx with hx | hx
      · exact h x hx
      · rw [List.mem_singleton] at hx
        subst hx
        rcases bestU_lt P R told n with e2 | ⟨j, hj, e2⟩
        · omega
        · rw [e2, inR]; simp; exact hj
theorem refL_in {P : List (List Int)} {R : List Int} : ∀ x ∈ (refL P R).getD [], inR P.length x = true := by
  cases h : refL P R with
  | none => intro x hx; cases hx
  | some l =>
    rw [refL] at h
    split at h
    · exact refF_in _ _ l (fun x hx => by cases hx) h
    · cases h
theorem refF_size {P : List (List Int)} {R : List Int} {n : Nat} : ∀ (k : Nat) (told l : List Int), refF P R n k told = some l → l.length = told.length + k
  | 0, told, l, h => by rw [refF] at h; cases h; rfl
  | k + 1, told, l, h => by
    rw [refF] at h
    split at h
    · cases h
    · have := refF_size k _ _ h
      simp at this; omega
theorem refL_size {P : List (List Int)} {R : List Int} : ((refL P R).getD []).length ≤ P.length := by
  cases h : refL P R with
  | none => simp
  | some l =>
    unfold refL at h
    split at h
    · have := refF_size _ _ _ h
      simp at this; simp [this]
    · cases h
theorem rnk_pos {p : Pa} {ls s : List Int} (h : Ordered p (levF p) ls s) {j : Nat} {x : Int} (hx : s[j]? = some x) : rnkL p ls x = j := by
  rw [rnkL, ← (h.2.filter _).length_eq]
  exact pos_count (ltB_irr p (levF p)) (ltB_asy p (levF p)) h.1 hx
def KdD (p : Pa) (ls : List Int) (D : List Nat) : Nat → List Nat := fun q => if q ∈ D then parL p ls (ls.getD q 0) else []
def WdD (p : Pa) (ls : List Int) (D : List Nat) : Nat → Nat := fun q => if q ∈ D then rnkL p ls (ls.getD q 0) else 0
theorem KdD_all {p : Pa} {ls : List Int} {D : List Nat} (h : ∀ q, q < ls.length → q ∈ D) : ((List.range ls.length).map fun q => rowCells (ofN (KdD p ls D q))) = (powP p ls).map rowCells := by
  apply List.ext_getElem?
  intro i
  by_cases hi : i < ls.length
  · obtain ⟨x, hx⟩ := gete hi
    rw [get_range _ hi, List.getElem?_map, powP, List.getElem?_map, hx, KdD, if_pos (h i hi), getD_some hx]; rfl
  · rw [List.getElem?_eq_none (by simpa using hi), List.getElem?_eq_none (by simp [powP]; omega)]
theorem WdD_all {p : Pa} {ls : List Int} {D : List Nat} (h : ∀ q, q < ls.length → q ∈ D) : ((List.range ls.length).map fun q => intCells (WdD p ls D q : Nat)) = (powR p ls).map intCells := by
  apply List.ext_getElem?
  intro i
  by_cases hi : i < ls.length
  · obtain ⟨x, hx⟩ := gete hi
    rw [get_range _ hi, List.getElem?_map, powR, List.getElem?_map, hx, WdD, if_pos (h i hi), getD_some hx]; rfl
  · rw [List.getElem?_eq_none (by simpa using hi), List.getElem?_eq_none (by simp [powR]; omega)]
theorem WdD_add {p : Pa} {ls : List Int} {D : List Nat} {m : Nat} : (fun q => if q = m then rnkL p ls (ls.getD m 0) else WdD p ls D q) = WdD p ls (D ++ [m]) := by
  funext q
  rw [WdD, WdD]
  by_cases e : q = m
  · subst e; simp
  · simp [e]
theorem KdD_start {p : Pa} {ls : List Int} {D : List Nat} {m : Nat} (h : m ∉ D) : (fun q => if q = m then [] else KdD p ls D q) = KdD p ls D := by
  funext q
  by_cases e : q = m
  · subst e; rw [if_pos rfl, KdD, if_neg h]
  · rw [if_neg e]
theorem KdD_end {p : Pa} {ls : List Int} {D : List Nat} {m : Nat} : (fun q => if q = m then parL p ls (ls.getD m 0) else KdD p ls D q) = KdD p ls (D ++ [m]) := by
  funext q
  rw [KdD, KdD]
  by_cases e : q = m
  · subst e; simp
  · simp [e]
def parK (p : Pa) (ls : List Int) (x : Int) (k : Nat) : List Nat := (List.range k).filter fun k => decide (ls.getD k 0 ∈ chainL p.auth [x])
theorem parK_succ (p : Pa) (ls : List Int) (x : Int) (k : Nat) : parK p ls x (k + 1) = parK p ls x k ++ (if ls.getD k 0 ∈ chainL p.auth [x] then [k] else []) := by
  rw [parK, List.range_succ, List.filter_append, parK, List.filter_cons, List.filter_nil]
  by_cases e : ls.getD k 0 ∈ chainL p.auth [x]
  · rw [if_pos e, if_pos (decide_eq_true e)]
  · rw [if_neg e, if_neg (by rw [decide_eq_false e]; decide)]
theorem parK_len (p : Pa) (ls : List Int) (x : Int) (k : Nat) : (parK p ls x k).length ≤ k := by
  rw [parK]
  exact Nat.le_trans (List.length_filter_le _ _) (by rw [List.length_range]; omega)
theorem Gr.rowAt {e sz : Nat} {H L0 L : AHeap} {es : List (List AV)} {a : AV} (hE : Ext H L0) (h : Gr e sz L0 es a L) : RowAt e sz H L es a ∧ Ext H L := by
  rcases h with ⟨rfl, rfl, rfl⟩ | ⟨b, hb, rfl, rfl⟩
  · exact ⟨RowAt.nil _ _ _ _, hE⟩
  · exact ⟨.inr ⟨b, none_of_ext hE hb, rfl, AHeap.get_put_same _ _ _⟩, hE.put hb⟩
end Go.Proofs.YtcpfgjfiacfmoaaGreatDoor

set_option linter.unusedSimpArgs false
set_option linter.unusedVariables false
set_option maxRecDepth 100000
namespace Go.Proofs.YtcpfgjfiacfmoaaGreatDoor
open Go Go.AL
attribute [local irreducible] AOps AWp SOps AE AT ACall AApp

set_option maxHeartbeats 4000000 in
theorem sortedP_c (p : Pa) (hr : p.Right) (mb : Nat) (ents : Array MapEntry) (clock : Nat) (F : Int → Int) (ls : List Int) (hl : ls.length ≤ 1000) (hnd : ls.Nodup) (hpo : ∀ x ∈ ls, 0 ≤ x ∧ x < p.events.length) (cb : Nat) (t : Bool) (H : AHeap) (hcb : H.get cb = some (.box 38 [.sl t (ls.map intCells)])) (hm : H.get mb = some (kmOf ents clock (mkN F ls))) (Kc : AV → AHeap → Prop)
    (h : ∀ s a L, Ordered p F ls s → Ext H L → RowAt 3 1 H L (s.map intCells) a → Kc a L) : ACall X 44 [.fn (.func 79) [] [ptrTo cb], .fn (.func 46) [] [.fp [.v (.map (some mb))], .fp (pCells p)]] H Kc := by
  refine ACall_intro Tryz.func44 rfl (by kernel_rfl) (by rw [Tryz.ntmps44]; simp) ?_; rw [Tryz.ntmps44]; simp only [frame0, Nat.reduceAdd]
  (refine AWp_seq_k (fun K hK => ?_); apply s_region; apply s_q; decide; rfl; (simp only [go_sem]; rfl); apply s_nil; simp only [AThen, ABlock]; refine hK _ _ ?_; clear hK K; refine AWp_seq_k (fun K hK => ?_); apply s_region; apply s_q; decide; rfl; (simp only [go_sem]; rfl); apply s_call; decide; (simp only [go_sem]; rfl); (simp only [go_sem]; rfl); apply collect_c cb t ls (by omega) H hcb; intro a1 L1 hE hR; apply s_q; decide; rfl; (simp only [go_sem]; rfl); apply s_nil; simp only [AThen, ABlock]; refine hK _ _ ?_; clear hK K; refine AWp_seq_k (fun K hK => ?_); apply s_region; (iterate 2 (apply s_q; decide; rfl; (simp only [go_sem]; rfl))))
  apply s_call; decide; exact (by simp only [go_sem]; try rfl); exact (by simp only [go_sem]; try rfl)
  refine ACall_sortAtM (Hc := AHeap.nil.put mb (kmOf ents clock (mkN F ls))) (k := 1) (mkA := fun bs => bs.headD .top) (c := fun i j => ordI p F (ls.getD i 0).toNat (ls.getD j 0).toNat) sorts62 (by kernel_rfl) (by kernel_rfl) mk_one hE hR (by rw [List.length_map]; omega) (fun x hx => ?_) (ord_swo p F ls _) (fun d o hd => ?_) (fun i j x y hx hy K2 hK2 => ?_) (fun pm L5 hp1 hp2 hp3 hp4 hp5 => ?_)
  · obtain ⟨d, _, rfl⟩ := List.mem_map.1 hx; rfl
  · rw [AHeap.get_put] at hd
    split at hd
    · rename_i e; subst e; cases hd
      exact ⟨(fun _ h => by cases h), hE _ _ hm, _, _, _, _, rfl⟩
    · cases hd
  · obtain ⟨a1, ha⟩ := gete (l := ls) (i := i) (by have := (List.getElem?_eq_some_iff.1 hx).1; simpa using this)
    obtain ⟨b1, hb⟩ := gete (l := ls) (i := j) (by have := (List.getElem?_eq_some_iff.1 hy).1; simpa using this)
    rw [int_at ha] at hx
    rw [int_at hb] at hy
    cases hx; cases hy
    have ha2 := hpo a1 (List.mem_of_getElem? ha)
    have hb2 := hpo b1 (List.mem_of_getElem? hb)
    have fa := mkN_find F a1 ls
    have fb := mkN_find F b1 ls
    rw [if_pos (List.mem_of_getElem? ha)] at fa
    rw [if_pos (List.mem_of_getElem? hb)] at fb
    rw [getD_some ha, getD_some hb] at hK2
    obtain ⟨an, rfl⟩ : ∃ n : Nat, a1 = n := ⟨a1.toNat, by omega⟩
    obtain ⟨bn, rfl⟩ : ∃ n : Nat, b1 = n := ⟨b1.toNat, by omega⟩
    exact cmpP_c p hr mb ents clock (mkN F ls) an bn (by omega) (by omega) (F an) (F bn) fa fb _ (AHeap.get_put_same _ _ _) K2 hK2
  · rw [List.length_map] at hp1
    rw [perm_cellsI hp1] at hp3
    have hord := ordered_of (p := p) (ff := F) hnd (fun x hx => (hpo x hx).1) hp1 hp2
    (apply s_nil; simp only [AThen, ABlock]; refine hK _ _ ?_; clear hK K; refine AWp_seq_k (fun K hK => ?_); apply s_region; (iterate 2 (apply s_q; decide; rfl; (simp only [go_sem]; rfl))); apply s_nil; simp only [AThen, ABlock]; refine hK _ _ ?_; clear hK K; apply AWp_ret)
    exact h _ _ _ hord hp4 hp3
set_option maxHeartbeats 8000000 in
theorem byPower_c (p : Pa) (hw : p.Wide) (hsm : ∀ e ∈ p.events, Sml e.content) (hn : p.events.length ≤ 1000) (t : Bool) (l : List Int) (hl : l.length ≤ 1000) (H : AHeap) (Kc : AV → AHeap → Prop) (h : Kc (.sl false ((powA p l).map intCells)) H) : ACall X 19 [.agg p.cells, .sl t (l.map intCells)] H Kc := by
  refine ACall.gr (e := 3) (sz := 1) h ?_
  clear h
  have hR : ∀ (H : AHeap) (K : AV → AHeap → Prop), K (.v (.bool (rightB p))) H → ACall X 25 [.agg (pCells p)] H K := fun H K hK => right_c p hw H K hK
  have hT : ∀ (H : AHeap) (K : AV → AHeap → Prop), K (.sl false ((setL p.events.length l).map intCells)) H → ACall X 43 [.agg (pCells p), .sl t (l.map intCells)] H K := fun H K hK => those_c p hw t l hl H K hK
  rw [Pa.cells]
  refine ACall_intro Tryz.func19 rfl (by kernel_rfl) (by rw [Tryz.ntmps19]; simp) ?_; rw [Tryz.ntmps19]; simp only [frame0, Nat.reduceAdd]
  refine AWp_seq_k (fun K hK => ?_); apply s_region
  apply s_box; decide; exact (by simp only [go_sem]; try rfl); exact (by simp only [go_sem]; try rfl); intro q hq
  generalize hgenq : AHeap.put q _ H = M; obtain ⟨g1, hextq⟩ := gen_ex hgenq hq; have hE := hextq; clear hextq hgenq
  have hHq : H.get q = none := hq
  (apply s_q; decide; rfl; (simp only [go_sem, g1]; rfl); apply s_nil; simp only [AThen, ABlock]; refine hK _ _ ?_; clear hK K; (iterate 2 (refine AWp_seq_k (fun K hK => ?_))); apply s_region; apply s_q; decide; rfl; (simp only [go_sem, g1]; rfl); apply s_call; decide; (simp only [go_sem, g1]; rfl); (simp only [go_sem, g1]; rfl); apply hR; apply s_q; decide; rfl; (simp only [go_sem, g1]; rfl); apply s_nil; simp only [AThen, ABlock]; refine hK _ _ ?_; clear hK K)
  refine cond_split (by simp only [go_sem]; try rfl) (fun hc => ?_) (fun hc => ?_)
  · have hc : rightB p = false := by simpa using hc
    (refine AWp_seq_k (fun K hK => ?_); apply s_region; apply s_q; decide; rfl; (simp only [go_sem]; rfl); apply s_nil; simp only [AThen, ABlock]; refine hK _ _ ?_; clear hK K; apply AWp_ret; simp only [AThen, ABlock]; apply end_ret; rfl; simp only [AFr.get, reduceIte, Nat.reduceEqDiff])
    rw [powA, if_neg (by rw [hc]; decide)]
    exact ⟨M, hE, .inl ⟨rfl, rfl, rfl⟩⟩
  have hc : rightB p = true := by simpa using hc
  have hr := right_true hc
  have hA : powA p l = powO p (setL p.events.length l) := by rw [powA, if_pos hc]
  have hln := setL_len p.events.length l
  have hnd := setL_nd p.events.length l
  have hlt := setL_lt p.events.length l
  have hpo := setL_pos (n := p.events.length) (l := l)
  generalize setL p.events.length l = ls at hT hln hnd hpo hlt hA
  have hLv : ∀ (i : Int), i ∈ ls → ∀ (H : AHeap) (K : AV → AHeap → Prop), K (.v (.int .i64 (levF p i))) H → ACall X 38 [.agg (pCells p), .v (.int .i64 i)] H K := fun i hi H K hK => by
    obtain ⟨m, rfl⟩ : ∃ m : Nat, i = m := ⟨i.toNat, by have := hpo i hi; omega⟩
    exact lev_c p hw hr hsm m (by have := hpo _ hi; omega) H K hK
  apply AWp_skip; simp only [AThen, ABlock]; refine hK _ _ ?_; clear hK K
  refine AWp_seq_k (fun K hK => ?_); apply s_region
  ((iterate 2 (apply s_q; decide; rfl; (simp only [go_sem, g1]; rfl))); apply s_call; decide; (simp only [go_sem, g1]; rfl); (simp only [go_sem, g1]; rfl); apply hT; apply s_q; decide; rfl; (simp only [go_sem, g1]; rfl))
  apply s_nil; simp only [AThen, ABlock]; refine hK _ _ ?_; clear hK K
  refine AWp_seq_k (fun K hK => ?_); apply s_region
  apply s_imap; decide; exact mp_64; intro mb hmb
  generalize hgenq : AHeap.put mb _ M = M1; obtain ⟨gm, hextq⟩ := gen_ex hgenq hmb; have g1 := hextq _ _ g1; have hE := Ext.trans hE hextq; clear hextq hgenq
  have hHm : H.get mb = none := none_of_ext (by assumption) hmb
  apply s_alloc; decide; exact zc_64; intro tb htb
  (apply s_store; (simp only [go_sem]; rfl); (simp only [go_sem]; rfl); (simp only [go_sem]; rfl))
  apply s_nil; simp only [AThen, ABlock]; refine hK _ _ ?_; clear hK K
  generalize hgenq : AHeap.put tb _ M1 = M2; obtain ⟨gt, hextq⟩ := gen_ex hgenq htb; have g1 := hextq _ _ g1; have gm := hextq _ _ gm; have hE := Ext.trans hE hextq; clear hextq hgenq
  have hHt : H.get tb = none := none_of_ext (by assumption) htb
  ((iterate 2 (refine AWp_seq_k (fun K hK => ?_))); apply s_region; (iterate 3 (apply s_q; decide; rfl; (simp only [go_sem]; rfl))); apply s_nil; simp only [AThen, ABlock]; refine hK _ _ ?_; clear hK K; apply AWp_block)
  refine AWp_loop_s (σ := Nat × AHeap) [2, 5, 6, 30, 31, 32] (fun s => [ptrTo q, .sl false (ls.map intCells), ptrTo tb, .sl false (ls.map intCells), .v (.int .i64 (ls.length : Nat)), .v (.int .i64 (s.1 : Int))]) (fun s => s.2) (fun s => ls.length - s.1)
    (fun s => s.1 ≤ ls.length ∧ s.2.get q = some (.box 35 (pCells p)) ∧ s.2.get tb = some (.box 64 [.v (.map (some mb))]) ∧ s.2.get mb = some (.imap .i64 (mkN (levF p) (ls.take s.1))) ∧ Ext H s.2)
    (0, M2) ⟨Nat.zero_le _, g1, gt, gm, hE⟩ rfl rfl (fun s hs => ?_)
  obtain ⟨i, L⟩ := s
  obtain ⟨hi, hqL, htL, hmL, hEL⟩ := hs
  clear g1 gt gm hE
  simp only [List.zip_cons_cons, List.zip_nil_right] at hi hqL htL hmL hEL ⊢
  (refine AWp_seq_k (fun K hK => ?_); apply s_region; apply s_q; decide; rfl; (simp only [go_sem]; rfl); apply s_nil; simp only [AThen, ABlock]; refine hK _ _ ?_; clear hK K; refine AWp_seq_k (fun K hK => ?_))
  refine cond_split (by simp only [go_sem]; try rfl) (fun hd => ?_) (fun hd => ?_)
  · have hil : i < ls.length := by simpa using hd
    obtain ⟨x, hx⟩ := gete hil
    have hgx := int_at hx
    have hLx := hLv x (List.mem_of_getElem? hx)
    have hmt : mb ≠ tb := by rintro rfl; rw [hmL] at htL; cases htL
    have hmq : mb ≠ q := by rintro rfl; rw [hmL] at hqL; cases hqL
    (apply AWp_skip; simp only [AThen, ABlock]; refine hK _ _ ?_; clear hK K; refine AWp_seq_k (fun K hK => ?_); apply AWp_block; refine AWp_seq_k (fun K hK => ?_); apply s_region; (iterate 3 (apply s_q; decide; rfl; (simp only [go_sem, hgx]; rfl))); apply s_nil; simp only [AThen, ABlock]; refine hK _ _ ?_; clear hK K)
    apply AWp_drawA [0, 1, 2, 3, 4] [5] 0 (by exact mixed); kernel_rfl; (simp only [go_sem]; rfl); (simp only [go_sem]; rfl)
    ((iterate 4 (apply e_q; decide; (simp only [go_sem, hqL, htL, hmL]; rfl))); apply e_call; decide; (simp only [go_sem, hqL, htL, hmL]; rfl); (simp only [go_sem, hqL, htL, hmL]; rfl); (apply hLx; exact ⟨rfl, rfl⟩); apply e_nil; apply t_mapput; rfl; (simp only [go_sem, hqL, htL, hmL]; rfl); (simp only [go_sem, hqL, htL, hmL]; rfl); (simp only [go_sem, hqL, htL, hmL]; rfl); (simp only [go_sem, hqL, htL, hmL]; rfl); apply t_nil; simp only [AThen, ABlock]; refine hK _ _ ?_; clear hK K; apply s_region; (iterate 2 (apply s_q; decide; rfl; (simp only [go_sem, hqL, htL, hmL]; rfl))); apply s_nil; simp only [AThen, ABlock])
    have k1 := get_other (x := .imap .i64 (kput x (.v (.int .i64 (levF p x))) (mkN (levF p) (ls.take i)))) hqL (Ne.symm hmq)
    have k2 := get_other (x := .imap .i64 (kput x (.v (.int .i64 (levF p x))) (mkN (levF p) (ls.take i)))) htL (Ne.symm hmt)
    have k3 := hEL.over (o := .imap .i64 (kput x (.v (.int .i64 (levF p x))) (mkN (levF p) (ls.take i)))) hHm
    refine ⟨(i + 1, L.put mb (.imap .i64 (kput x (.v (.int .i64 (levF p x))) (mkN (levF p) (ls.take i))))), by simp only; omega, ⟨by simp only; omega, k1, k2, ?_, k3⟩, ?_, by rfl⟩
    · simp only
      rw [AHeap.get_put_same, take_succ hx]
      exact congrArg (fun e => some (AObj.imap .i64 e)) (mkN_put (ff := levF p) (fresh_at hnd hx))
    · simp only [getAll, List.map_cons, List.map_nil, AFr.get, reduceIte, Nat.reduceEqDiff]
      rw [wrapS hil (by omega)]; try rfl
  have hge : ls.length ≤ i := by simpa using hd
  rw [List.take_of_length_le hge] at hmL
  apply AWp_exit; simp only [AThen, ABlock, reduceIte, Nat.reduceEqDiff]; clear hK K; refine hK _ _ ?_; clear hK K
  refine AWp_cut [2, 5, 6] (vs := [ptrTo q, .sl false (ls.map intCells), ptrTo tb]) rfl ?_
  simp only [List.zip_cons_cons, List.zip_nil_right]
  refine AWp.hold hmL (fun ents clock => ?_)
  have hmt : mb ≠ tb := by rintro rfl; rw [hmL] at htL; cases htL
  have hmq : mb ≠ q := by rintro rfl; rw [hmL] at hqL; cases hqL
  have htq : tb ≠ q := by rintro rfl; rw [htL] at hqL; cases hqL
  have k1 := get_other (x := kmOf ents clock (mkN (levF p) ls)) hqL (Ne.symm hmq)
  have k2 := get_other (x := kmOf ents clock (mkN (levF p) ls)) htL (Ne.symm hmt)
  have k3 := AHeap.get_put_same mb (kmOf ents clock (mkN (levF p) ls)) L
  have k4 := hEL.over (o := kmOf ents clock (mkN (levF p) ls)) hHm
  clear hqL htL hmL hEL
  obtain ⟨L1, hL1⟩ : ∃ L1, L.put mb (kmOf ents clock (mkN (levF p) ls)) = L1 := ⟨_, rfl⟩
  rw [hL1] at k1 k2 k3 k4
  rw [show AHeap.put mb (.kmap ents clock ((mkN (levF p) ls).map fun p => .v (.int .i64 p.1)) ((mkN (levF p) ls).map (·.2))) L = L1 from hL1]
  refine AWp.freeze (t := 6) k2 rfl (by decide) ?_
  have m1 : (L1.del tb).get q = some (.box 35 (pCells p)) := by rw [AHeap.get_del, if_neg (Ne.symm htq)]; exact k1
  refine AWp.freeze (t := 2) m1 rfl (by decide) ?_
  have n3 : ((L1.del tb).del q).get mb = some (kmOf ents clock (mkN (levF p) ls)) := by rw [AHeap.get_del, if_neg hmq, AHeap.get_del, if_neg hmt]; exact k3
  have n4 : Ext H ((L1.del tb).del q) := (k4.del hHt).del hHq
  generalize (L1.del tb).del q = L2 at n3 n4 ⊢
  clear k1 k2 k3 k4 m1
  refine AWp_seq_k (fun K hK => ?_); apply s_region
  (apply s_q; decide; rfl; (simp only [go_sem]; rfl); apply s_call; decide; (simp only [go_sem]; rfl); (simp only [go_sem]; rfl); apply values_c false ls; intro cb hcb; apply s_q; decide; rfl; (simp only [go_sem]; rfl))
  have gcb := AHeap.get_put_same cb (.box 38 [.sl false (ls.map intCells)]) L2
  have n3' := get_fresh n3 hcb (x := .box 38 [.sl false (ls.map intCells)])
  have n4' := n4.put hcb (ob := .box 38 [.sl false (ls.map intCells)])
  generalize AHeap.put cb (.box 38 [.sl false (ls.map intCells)]) L2 = L3 at gcb n3' n4' ⊢
  (apply s_call; decide; (simp only [go_sem]; rfl); (simp only [go_sem]; rfl); apply sortedP_c p hr mb ents clock (levF p) ls (by omega) hnd hpo cb false _ gcb n3'; intro sr a9 L4 hord hE4 hR4; apply s_q; decide; rfl; (simp only [go_sem]; rfl))
  apply s_nil; simp only [AThen, ABlock]; refine hK _ _ ?_; clear hK K
  obtain ⟨L5, hE5, hG5⟩ := hR4.toGr hE4
  have hEH := n4'.trans hE5
  refine AWp_cut [9, 2, 5] (vs := [a9, .fp (pCells p), .sl false (ls.map intCells)]) rfl ?_
  simp only [List.zip_cons_cons, List.zip_nil_right]
  have hpc : ∀ (b sz : Nat) (es : List (List AV)), AV.snaps b sz es (pCells p) = pCells p := fun b sz es => Pa.snap b sz es p
  refine AWp_gr2 hG5 (fun b hb => by simp only [AFr.snap, AV.snap, snap_ints, hpc]) ?_
  clear hG5 hR4 hE4 hE5 gcb n3' n4' n3 n4
  obtain ⟨n, hnn⟩ : ∃ n, ls.length = n := ⟨_, rfl⟩
  have hsrl : sr.length = n := by rw [hord.2.length_eq, hnn]
  have hsrn : sr.Nodup := hord.2.nodup_iff.2 hnd
  refine AWp_seq_k (fun K hK => ?_)
  have hcont : ∀ (bk bw : Nat) (L2 : AHeap) (fr' : AFr), Rk.Kids L5 L2 n bk bw (fun _ => .sl true []) (fun _ => []) (fun _ => 0) → getAll [10, 11, 9, 5, 2] fr' = [.row bk 1 n, .row bw 1 n, .sl false (sr.map intCells), .sl false (ls.map intCells), .fp (pCells p)] → K fr' L2 := fun bk bw L2 fr' hKd hfr => by
    refine hK _ _ (AWp_cut [10, 11, 9, 5, 2] hfr ?_); clear hK hfr K
    simp only [List.zip_cons_cons, List.zip_nil_right]
    have hRe : ∀ (x : Int) (H : AHeap) (K : AV → AHeap → Prop), (∀ m L S, Ext H L → H.get m = none → L.get m = some (.imap .i64 (mkT S)) → S.Nodup → (∀ k, k ∈ S ↔ Reach p.auth [x] k) → K (.v (.map (some m))) L) → ACall X 51 [.agg (pCells p), .sl true [[.v (.int .i64 x)]]] H K := fun x H K hK => reach_c p hw hr (by have := hr.au; omega) true [x] (by simp) H K hK
    have hB := below_of hr
    ((iterate 2 (refine AWp_seq_k (fun K hK => ?_))); apply s_region; (iterate 3 (apply s_q; decide; rfl; (simp only [go_sem]; rfl))); apply s_nil; simp only [AThen, ABlock]; refine hK _ _ ?_; clear hK K; apply AWp_block)
    refine AWp_loop_s (σ := Nat × List Nat × (Nat → AV) × AHeap) [2, 5, 10, 11, 52, 53, 54] (fun s => [.fp (pCells p), .sl false (ls.map intCells), .row bk 1 n, .row bw 1 n, .sl false (sr.map intCells), .v (.int .i64 (sr.length : Nat)), .v (.int .i64 (s.1 : Int))]) (fun s => s.2.2.2) (fun s => sr.length - s.1)
      (fun s => s.1 ≤ sr.length ∧ Rk.Kids L5 s.2.2.2 n bk bw s.2.2.1 (KdD p ls s.2.1) (WdD p ls s.2.1) ∧ (∀ q ∈ s.2.1, q < n ∧ ls.getD q 0 ∈ sr.take s.1) ∧ (∀ q, q < n → ls.getD q 0 ∈ sr.take s.1 → q ∈ s.2.1))
      (0, [], fun _ => .sl true [], L2) ⟨Nat.zero_le _, hKd, (fun q hq => by cases hq), (fun q _ hq => by simp at hq)⟩ rfl rfl (fun s hs => ?_)
    obtain ⟨j, D, ks, L⟩ := s
    obtain ⟨hj, hKd, hD1, hD2⟩ := hs
    simp only [List.zip_cons_cons, List.zip_nil_right] at hj hKd hD1 hD2 ⊢
    (refine AWp_seq_k (fun K hK => ?_); apply s_region; apply s_q; decide; rfl; (simp only [go_sem]; rfl); apply s_nil; simp only [AThen, ABlock]; refine hK _ _ ?_; clear hK K; refine AWp_seq_k (fun K hK => ?_))
    refine cond_split (by simp only [go_sem]; try rfl) (fun hd => ?_) (fun hd => ?_)
    · have hjl : j < sr.length := by simpa using hd
      obtain ⟨x, hx⟩ := gete hjl
      have hgx := int_at hx
      have hxl : x ∈ ls := hord.2.mem_iff.1 (List.mem_of_getElem? hx)
      obtain ⟨m, hml, hme⟩ := List.mem_iff_getElem.1 hxl
      have hm : ls[m]? = some x := by rw [← hme]; exact List.getElem?_eq_getElem hml
      have hmn : m < n := by omega
      have hmD : m ∉ D := fun h => by
        have := (hD1 m h).2
        rw [getD_some hm] at this
        exact fresh_at hsrn hx this
      have hb1 : ∀ j x', j < m → ls[j]? = some x' → x' < x := fun j x' hj' hx' => by
        obtain ⟨h1, h2⟩ := List.getElem?_eq_some_iff.1 hx'
        have := List.pairwise_iff_getElem.1 hlt j m h1 hml hj'
        rw [h2, hme] at this; exact this
      have hb3 : ∀ j x', m ≤ j → ls[j]? = some x' → x ≤ x' := fun j x' hj' hx' => by
        obtain ⟨h1, h2⟩ := List.getElem?_eq_some_iff.1 hx'
        rcases Nat.lt_or_ge m j with h3 | h3
        · have := List.pairwise_iff_getElem.1 hlt m j hml h1 h3
          rw [h2, hme] at this; omega
        · have : j = m := by omega
          subst this
          rw [hme] at h2; omega
      have hw2 := hKd.w
      have hltm : ((m : Int) < (n : Int)) = True := by simp; omega
      have hgw : ((List.range n).map fun j => intCells (WdD p ls D j : Nat))[m]? = some [.v (.int .i64 (WdD p ls D m : Nat))] := get_range _ hmn
      (apply AWp_skip; simp only [AThen, ABlock]; refine hK _ _ ?_; clear hK K; refine AWp_seq_k (fun K hK => ?_); apply AWp_block; refine AWp_seq_k (fun K hK => ?_); apply s_region; (iterate 5 (apply s_q; decide; rfl; (simp only [go_sem, hgx, hw2, hltm, hgw]; rfl))); apply s_nil; simp only [AThen, ABlock]; refine hK _ _ ?_; clear hK K; refine AWp_seq_k (fun K hK => ?_); apply s_region; (iterate 2 (apply s_q; decide; rfl; (simp only [go_sem, hgx, hw2, hltm, hgw]; rfl))); apply s_call; decide; (simp only [go_sem, hgx, hw2, hltm, hgw]; rfl); (simp only [go_sem, hgx, hw2, hltm, hgw]; rfl); refine bsearch_c false ls x m (by omega) hb1 hm hb3 _ _ (fun fb => ?_); (iterate 5 (apply s_q; decide; rfl; (simp only [go_sem, hgx, hw2, hltm, hgw]; rfl))); apply s_nil; simp only [AThen, ABlock]; refine hK _ _ ?_; clear hK K; refine AWp_seq_k (fun K hK => ?_); apply s_region; (iterate 4 (apply s_q; decide; rfl; (simp only [go_sem, hgx, hw2, hltm, hgw]; rfl))); apply s_store; (simp only [go_sem, hgx, hw2, hltm, hgw]; rfl); (simp only [go_sem, hgx, hw2, hltm, hgw]; rfl); (simp only [go_sem, hgx, hw2, hltm, hgw]; rfl); apply s_nil; simp only [AThen, ABlock]; refine hK _ _ ?_; clear hK K; refine AWp_seq_k (fun K hK => ?_); apply s_region; (iterate 2 (apply s_q; decide; rfl; (simp only [go_sem, hgx, hw2, hltm, hgw]; rfl))); apply s_lit; decide; exact el_38; (simp only [go_sem, hgx, hw2, hltm, hgw]; rfl); (simp only [go_sem, hgx, hw2, hltm, hgw]; rfl); decide)
      have c1 := hKd.wset m j
      have hrk : rnkL p ls (ls.getD m 0) = j := by rw [getD_some hm]; exact rnk_pos hord hx
      have hWe := WdD_add (p := p) (ls := ls) (D := D) (m := m)
      rw [hrk] at hWe
      rw [hWe] at c1
      have hL7 : L.put bw (.row 2 1 false (((List.range n).map fun j => intCells (WdD p ls D j : Nat)).set m [.v (.int .i64 (j : Int))])) = L.put bw (.row 2 1 false (((List.range n).map fun j => intCells (WdD p ls D j : Nat)).set m (intCells (j : Nat)))) := rfl
      rw [hL7]
      clear hL7 hKd hw2
      generalize L.put bw (.row 2 1 false (((List.range n).map fun j => intCells (WdD p ls D j : Nat)).set m (intCells (j : Nat)))) = L7 at c1 ⊢
      (apply s_call; decide; (simp only [go_sem]; rfl); (simp only [go_sem]; rfl); apply hRe; intro mm L8 S hE8 hm8 hm88 hnd8 hmem8; apply s_q; decide; rfl; (simp only [go_sem]; rfl); apply s_nil; simp only [AThen, ABlock]; refine hK _ _ ?_; clear hK K; refine AWp_seq_k (fun K hK => ?_); apply s_region; (iterate 3 (apply s_q; decide; rfl; (simp only [go_sem]; rfl))); apply s_nil; simp only [AThen, ABlock]; refine hK _ _ ?_; clear hK K; apply AWp_block)
      have c2 := c1.more hE8
      clear c1
      have hK0 := KdD_start (p := p) (ls := ls) hmD
      rw [hnn]
      refine AWp_loop_s (σ := Nat × (Nat → AV) × (Nat → List Nat) × AHeap) [2, 5, 10, 11, 14, 16, 52, 53, 54, 73, 74, 75] (fun s => [.fp (pCells p), .sl false (ls.map intCells), .row bk 1 n, .row bw 1 n, .v (.int .i64 (m : Int)), .v (.map (some mm)), .sl false (sr.map intCells), .v (.int .i64 (sr.length : Nat)), .v (.int .i64 (j : Int)), .sl false (ls.map intCells), .v (.int .i64 (n : Nat)), .v (.int .i64 (s.1 : Int))]) (fun s => s.2.2.2) (fun s => n - s.1)
        (fun s => s.1 ≤ n ∧ Rk.Kids L5 s.2.2.2 n bk bw s.2.1 s.2.2.1 (WdD p ls (D ++ [m])) ∧ s.2.2.1 = (fun q => if q = m then parK p ls x s.1 else KdD p ls D q) ∧ s.2.2.2.get mm = some (.imap .i64 (mkT S)))
        (0, ks, KdD p ls D, L8) ⟨Nat.zero_le _, c2, hK0.symm, hm88⟩ rfl rfl (fun s hs => ?_)
      obtain ⟨k, ks2, Kf, L9⟩ := s
      obtain ⟨hk, hKd, hKf, hm9⟩ := hs
      clear c2 hm88
      simp only [List.zip_cons_cons, List.zip_nil_right] at hk hKd hKf hm9 ⊢
      (refine AWp_seq_k (fun K hK => ?_); apply s_region; apply s_q; decide; rfl; (simp only [go_sem]; rfl); apply s_nil; simp only [AThen, ABlock]; refine hK _ _ ?_; clear hK K; refine AWp_seq_k (fun K hK => ?_))
      refine cond_split (by simp only [go_sem]; try rfl) (fun he => ?_) (fun he => ?_)
      · have hkn : k < n := by simpa using he
        obtain ⟨y, hy⟩ := gete (l := ls) (i := k) (by omega)
        have hgy := int_at hy
        have hfd := mkT_find y S
        have hKm : Kf m = parK p ls x k := by rw [hKf]; simp
        have hpk := parK_succ p ls x k
        rw [getD_some hy] at hpk
        have hpl := parK_len p ls x k
        by_cases hyS : y ∈ S
        · rw [if_pos hyS] at hfd
          rw [if_pos ((chain_mem hB).2 ((hmem8 y).1 hyS))] at hpk
          (apply AWp_skip; simp only [AThen, ABlock]; refine hK _ _ ?_; clear hK K; refine AWp_seq_k (fun K hK => ?_); apply AWp_block; refine AWp_seq_k (fun K hK => ?_); apply s_region; (iterate 5 (apply s_q; decide; rfl; (simp only [go_sem, hgy, hm9, hfd]; rfl))); apply s_nil; simp only [AThen, ABlock]; refine hK _ _ ?_; clear hK K; refine AWp_seq_k (fun K hK => ?_); apply s_region; (iterate 3 (apply s_q; decide; rfl; (simp only [go_sem, hgy, hm9, hfd]; rfl))); apply s_nil; simp only [AThen, ABlock]; refine hK _ _ ?_; clear hK K)
          refine cond_split (by simp only [go_sem]; try rfl) (fun hz => ?_) (fun hz => ?_)
          rotate_left
          · cases hz
          have a4 := hKd.k
          have hgk := get_range (fun p => [ks2 p]) hmn
          have hkl : (Kf m).length ≤ 1000 := by rw [hKm]; omega
          (apply s_region; (iterate 7 (apply s_q; decide; rfl; (simp only [go_sem, a4, hgk, hltm]; rfl))); apply s_lit; decide; exact el_38; (simp only [go_sem, a4, hgk, hltm]; rfl); (simp only [go_sem, a4, hgk, hltm]; rfl); decide)
          apply s_append; decide; exact (by simp only [go_sem]; try rfl); exact (by simp only [go_sem]; try rfl); apply AApp_push el_38 (hKd.held m hmn) (cellsN_one _) (nes := [[.v (.int .i64 (k : Int))]]) (fun M => src_sl tk_38 (fun e he => by simp at he; subst he; exact ⟨rfl, rfl⟩)) (by simp) (by rw [cellsN_len]; simp; omega) (by rw [cellsN_len]; simp; omega); intro nb L10 k1 k2
          rw [cellsN_app] at k1 ⊢
          obtain ⟨b1, b2⟩ := hKd.kset hmn k1 k2
          have b3 := b2 mm _ hm9 (by intro _ _ _ _ h; cases h)
          have b5 : L10.get bk = some (.row 38 1 false ((List.range n).map fun p => [ks2 p])) := (k2 bk _ a4 (fun b e => by rintro rfl; rw [(hKd.at_ hmn e).1] at a4; cases a4)).1
          clear b2 k2 k1 a4
          (apply s_q; decide; rfl; (simp only [go_sem, b5, hgk, hltm]; rfl); apply s_store; (simp only [go_sem, b5, hgk, hltm]; rfl); (simp only [go_sem, b5, hgk, hltm]; rfl); (simp only [go_sem, b5, hgk, hltm]; rfl))
          apply s_nil; simp only [AThen, ABlock]; refine hK _ _ ?_; clear hK K
          (apply s_region; (iterate 2 (apply s_q; decide; rfl; (simp only [go_sem]; rfl))); apply s_nil; simp only [AThen, ABlock])
          refine ⟨(k + 1, fun p => if p = m then .row nb 1 (cellsN (Kf m ++ [k])).length else ks2 p, fun q => if q = m then Kf m ++ [k] else Kf q, _), by simp only; omega, ⟨by simp only; omega, b1, ?_, b3⟩, ?_, by rfl⟩
          · simp only
            rw [hpk, hKm, hKf]
            funext q
            by_cases e : q = m <;> simp [e]
          · simp only [getAll, List.map_cons, List.map_nil, AFr.get, reduceIte, Nat.reduceEqDiff]
            rw [wrapS hkn (by omega)]; try rfl
        · rw [if_neg hyS] at hfd
          rw [if_neg (fun h => hyS ((hmem8 y).2 ((chain_mem hB).1 h))), List.append_nil] at hpk
          (apply AWp_skip; simp only [AThen, ABlock]; refine hK _ _ ?_; clear hK K; refine AWp_seq_k (fun K hK => ?_); apply AWp_block; refine AWp_seq_k (fun K hK => ?_); apply s_region; (iterate 5 (apply s_q; decide; rfl; (simp only [go_sem, hgy, hm9, hfd]; rfl))); apply s_nil; simp only [AThen, ABlock]; refine hK _ _ ?_; clear hK K; refine AWp_seq_k (fun K hK => ?_); apply s_region; (iterate 3 (apply s_q; decide; rfl; (simp only [go_sem, hgy, hm9, hfd]; rfl))); apply s_nil; simp only [AThen, ABlock]; refine hK _ _ ?_; clear hK K)
          refine cond_split (by simp only [go_sem]; try rfl) (fun hz => ?_) (fun hz => ?_)
          · cases hz
          (apply AWp_skip; simp only [AThen, ABlock]; refine hK _ _ ?_; clear hK K; apply s_region; (iterate 2 (apply s_q; decide; rfl; (simp only [go_sem]; rfl))); apply s_nil; simp only [AThen, ABlock])
          refine ⟨(k + 1, ks2, Kf, L9), by simp only; omega, ⟨by simp only; omega, hKd, by simp only; rw [hpk]; exact hKf, hm9⟩, ?_, by rfl⟩
          simp only [getAll, List.map_cons, List.map_nil, AFr.get, reduceIte, Nat.reduceEqDiff]
          rw [wrapS hkn (by omega)]; try rfl
      · have hge : n = k := by simp at he; omega
        subst hge
        have hend := KdD_end (p := p) (ls := ls) (D := D) (m := m)
        rw [getD_some hm, show parL p ls x = parK p ls x n by rw [parL, parK, hnn]] at hend
        rw [hKf, hend] at hKd
        (apply AWp_exit; simp only [AThen, ABlock, reduceIte, Nat.reduceEqDiff]; clear hK K; refine hK _ _ ?_; clear hK K; apply s_region; (iterate 2 (apply s_q; decide; rfl; (simp only [go_sem]; rfl))); apply s_nil; simp only [AThen, ABlock])
        refine ⟨(j + 1, D ++ [m], ks2, L9), by simp only; omega, ⟨by simp only; omega, hKd, fun q hq => ?_, fun q hq hq2 => ?_⟩, ?_, by rfl⟩
        · rw [take_succ hx]
          rcases List.mem_append.1 hq with hq | hq
          · exact ⟨(hD1 q hq).1, List.mem_append.2 (.inl (hD1 q hq).2)⟩
          · rw [List.mem_singleton] at hq
            subst hq
            exact ⟨hmn, by rw [getD_some hm]; simp⟩
        · rw [take_succ hx] at hq2
          rcases List.mem_append.1 hq2 with hq2 | hq2
          · exact List.mem_append.2 (.inl (hD2 q hq hq2))
          · rw [List.mem_singleton] at hq2
            have hql : q < ls.length := by omega
            rw [getD_some (List.getElem?_eq_getElem hql), ← hme] at hq2
            have := (List.getElem_inj hnd).1 hq2
            subst this
            simp
        · simp only [getAll, List.map_cons, List.map_nil, AFr.get, reduceIte, Nat.reduceEqDiff]
          rw [wrapS hjl (by omega)]; try rfl
    · have hge : sr.length ≤ j := by simpa using hd
      rw [List.take_of_length_le hge] at hD1 hD2
      have hDall : ∀ q, q < ls.length → q ∈ D := fun q hq => hD2 q (by omega) (by
        rw [getD_some (List.getElem?_eq_getElem hq)]
        exact hord.2.mem_iff.2 (List.getElem_mem hq))
      apply AWp_exit; simp only [AThen, ABlock, reduceIte, Nat.reduceEqDiff]; clear hK K; refine hK _ _ ?_; clear hK K
      refine AWp_cut [10, 11, 5] (vs := [.row bk 1 n, .row bw 1 n, .sl false (ls.map intCells)]) rfl ?_
      simp only [List.zip_cons_cons, List.zip_nil_right]
      refine Rk.frozen hKd (fun b sz es => by simp only [AFr.snap, AV.snap, snap_ints]) 10 11 ?_
      rw [← hnn, WdD_all hDall]
      (refine AWp_seq_k (fun K hK => ?_); apply s_region; (iterate 2 (apply s_q; decide; rfl; (simp only [go_sem]; rfl))))
      have hpl2 := powP_len p ls
      have hrl2 := powR_len p ls
      apply s_call; decide; exact (by simp only [go_sem]; try rfl); exact (by simp only [go_sem]; try rfl)
      refine ACall.loosen ?_
      refine ACall.args_eq (bs := [.sl false ((powP p ls).map rowCells), .sl false ((powR p ls).map intCells)]) ?_ ?_
      · rw [← KdD_all hDall]
        have hlo : ∀ l : List Nat, AV.loosenss (l.map fun q => [AV.sl (Rk.tight (ks q)) (cellsN (KdD p ls D q))]) = l.map fun q => rowCells (ofN (KdD p ls D q)) := fun l => by
          induction l with
          | nil => rfl
          | cons x l ih =>
            simp only [List.map_cons, AV.loosenss, AV.loosens, AV.loosen, ih]
            rw [cellsN, loosen_ints]; rfl
        simp only [AV.loosens, AV.loosen, loosen_ints, hlo]
      refine ACall.mono (linear_g false (powP p ls) (powR p ls) (by omega) (fun r hr' => by have := powP_row r hr'; omega) (by omega) _ _ rfl) (fun a L' hq => ?_)
      obtain ⟨L0', a1, rfl, hE', hG⟩ := hq
      obtain ⟨hR1, hE1⟩ := Gr.rowAt hE' hG
      have hR2 := RowAt.base hR1 hEH
      have hEx := hEH.trans hE1
      have hos := refL_in (P := powP p ls) (R := powR p ls)
      have hosl := refL_size (P := powP p ls) (R := powR p ls)
      rw [hpl2] at hos hosl
      generalize (if (refL (powP p ls) (powR p ls)).isSome = true then (0 : Int) else 1) = er
      obtain ⟨os, hosE⟩ : ∃ os, (refL (powP p ls) (powR p ls)).getD [] = os := ⟨_, rfl⟩
      have hpo2 : powO p ls = os.map fun k => ls.getD k.toNat 0 := by rw [powO, hosE]
      rw [hosE] at hR2 hos hosl
      clear hR1 hG
      rcases hR2 with ⟨rfl, h0⟩ | ⟨b, hHb, rfl, gb⟩
      · have hos0 : os = [] := by simpa using h0
        subst hos0
        ((iterate 5 (apply s_q; decide; rfl; (simp only [go_sem]; rfl))); apply s_nil; simp only [AThen, ABlock]; refine hK _ _ ?_; clear hK K; (iterate 2 (refine AWp_seq_k (fun K hK => ?_))); apply s_region; (iterate 3 (apply s_q; decide; rfl; (simp only [go_sem]; rfl))); apply s_nil; simp only [AThen, ABlock]; refine hK _ _ ?_; clear hK K; apply AWp_block)
        refine AWp_loop_s (σ := Unit) [19, 102, 103] (fun _ => [.sl true [], .v (.int .i64 0), .v (.int .i64 0)]) (fun _ => L') (fun _ => 0) (fun _ => True) () trivial rfl rfl (fun s hs => ?_)
        simp only [List.zip_cons_cons, List.zip_nil_right]
        (refine AWp_seq_k (fun K hK => ?_); apply s_region; apply s_q; decide; rfl; (simp only [go_sem]; rfl); apply s_nil; simp only [AThen, ABlock]; refine hK _ _ ?_; clear hK K; refine AWp_seq_k (fun K hK => ?_))
        refine cond_split (by simp only [go_sem]; try rfl) (fun hz => ?_) (fun hz => ?_)
        · cases hz
        (apply AWp_exit; simp only [AThen, ABlock, reduceIte, Nat.reduceEqDiff]; clear hK K; refine hK _ _ ?_; clear hK K; refine AWp_seq_k (fun K hK => ?_); apply s_region; (iterate 2 (apply s_q; decide; rfl; (simp only [go_sem]; rfl))); apply s_nil; simp only [AThen, ABlock]; refine hK _ _ ?_; clear hK K; apply AWp_ret)
        exact ⟨L', hEx, .inl ⟨rfl, by rw [hA, hpo2]; rfl, rfl⟩⟩
      · rw [List.length_map]
        ((iterate 5 (apply s_q; decide; rfl; (simp only [go_sem]; rfl))); apply s_nil; simp only [AThen, ABlock]; refine hK _ _ ?_; clear hK K; (iterate 2 (refine AWp_seq_k (fun K hK => ?_))); apply s_region; (iterate 3 (apply s_q; decide; rfl; (simp only [go_sem]; rfl))); apply s_nil; simp only [AThen, ABlock]; refine hK _ _ ?_; clear hK K; apply AWp_block)
        refine AWp_loop_s (σ := Nat) [5, 19, 101, 102, 103] (fun i => [.sl false (ls.map intCells), .row b 1 os.length, .row b 1 os.length, .v (.int .i64 (os.length : Nat)), .v (.int .i64 (i : Int))]) (fun i => L'.put b (.row 3 1 false (((os.take i).map (fun k => ls.getD k.toNat 0) ++ os.drop i).map intCells))) (fun i => os.length - i) (fun i => i ≤ os.length) 0 (Nat.zero_le _) rfl (by simp only [List.take_zero, List.map_nil, List.nil_append, List.drop_zero]; rw [put_same gb]) (fun i hi => ?_)
        simp only [List.zip_cons_cons, List.zip_nil_right]
        have hgb := AHeap.get_put_same b (.row 3 1 false (((os.take i).map (fun k => ls.getD k.toNat 0) ++ os.drop i).map intCells)) L'
        (refine AWp_seq_k (fun K hK => ?_); apply s_region; apply s_q; decide; rfl; (simp only [go_sem]; rfl); apply s_nil; simp only [AThen, ABlock]; refine hK _ _ ?_; clear hK K; refine AWp_seq_k (fun K hK => ?_))
        refine cond_split (by simp only [go_sem]; try rfl) (fun hz => ?_) (fun hz => ?_)
        · have hil : i < os.length := by simpa using hz
          obtain ⟨k, hk⟩ := gete hil
          have hkin : 0 ≤ k ∧ k < ls.length := by simpa [inR] using hos k (List.mem_of_getElem? hk)
          obtain ⟨kn, rfl⟩ : ∃ m : Nat, k = m := ⟨k.toNat, by omega⟩
          obtain ⟨y, hy⟩ := gete (l := ls) (i := kn) (by omega)
          have hgy := int_at hy
          have hlti : ((i : Int) < (os.length : Int)) = True := by simp; omega
          have htl : ((os.take i).map fun k => ls.getD k.toNat 0).length = i := by simp; omega
          have hcur : ((os.take i).map (fun k => ls.getD k.toNat 0) ++ os.drop i)[i]? = some (kn : Int) := by
            rw [List.getElem?_append_right (by omega), htl, Nat.sub_self, List.getElem?_drop, Nat.add_zero]; exact hk
          have hgc := int_at hcur
          (apply AWp_skip; simp only [AThen, ABlock]; refine hK _ _ ?_; clear hK K; refine AWp_seq_k (fun K hK => ?_); apply AWp_block; refine AWp_seq_k (fun K hK => ?_); apply s_region; (iterate 5 (apply s_q; decide; rfl; (simp only [go_sem, hgb, hgc, hlti, hgy]; rfl))); apply s_nil; simp only [AThen, ABlock]; refine hK _ _ ?_; clear hK K; apply s_region; (iterate 7 (apply s_q; decide; rfl; (simp only [go_sem, hgb, hgc, hlti, hgy]; rfl))); apply s_store; (simp only [go_sem, hgb, hgc, hlti, hgy]; rfl); (simp only [go_sem, hgb, hgc, hlti, hgy]; rfl); (simp only [go_sem, hgb, hgc, hlti, hgy]; rfl); apply s_nil; simp only [AThen, ABlock]; refine hK _ _ ?_; clear hK K; apply s_region; (iterate 2 (apply s_q; decide; rfl; (simp only [go_sem, hgb, hgc, hlti, hgy]; rfl))); apply s_nil; simp only [AThen, ABlock])
          refine ⟨i + 1, by omega, hil, ?_, ?_⟩
          · simp only [getAll, List.map_cons, List.map_nil, AFr.get, reduceIte, Nat.reduceEqDiff]
            rw [wrapS hil (by omega)]; try rfl
          · have e0 : ((os.take i).map (fun k => ls.getD k.toNat 0) ++ os.drop i).set i y = (os.take (i + 1)).map (fun k => ls.getD k.toNat 0) ++ os.drop (i + 1) := by
              rw [List.set_append_right _ _ (by omega), htl, Nat.sub_self, take_succ hk, List.map_append, List.append_assoc]
              congr 1
              rw [List.drop_eq_getElem_cons hil, List.set_cons_zero]
              simp only [List.map_cons, List.map_nil, List.cons_append, List.nil_append, Int.toNat_natCast]
              rw [getD_some hy]
            have e1 : (((os.take i).map (fun k => ls.getD k.toNat 0) ++ os.drop i).map intCells).set i [.v (.int .i64 y)] = ((os.take (i + 1)).map (fun k => ls.getD k.toNat 0) ++ os.drop (i + 1)).map intCells := by
              rw [show [AV.v (.int .i64 y)] = intCells y from rfl, ← List.map_set, e0]
            rw [e1]
        · have hge : os.length = i := by simp at hz; omega
          subst hge
          rw [List.take_length, List.drop_length, List.append_nil] at hgb ⊢
          (apply AWp_exit; simp only [AThen, ABlock, reduceIte, Nat.reduceEqDiff]; clear hK K; refine hK _ _ ?_; clear hK K; refine AWp_seq_k (fun K hK => ?_); apply s_region; (iterate 2 (apply s_q; decide; rfl; (simp only [go_sem]; rfl))); apply s_nil; simp only [AThen, ABlock]; refine hK _ _ ?_; clear hK K; apply AWp_ret)
          have hfr2 : RowAt 3 1 H (L'.put b (.row 3 1 false ((os.map (fun k => ls.getD k.toNat 0)).map intCells))) ((os.map (fun k => ls.getD k.toNat 0)).map intCells) (.row b 1 os.length) := .inr ⟨b, hHb, by simp, hgb⟩
          obtain ⟨L6, h1, h2⟩ := hfr2.toGr (hEx.over hHb)
          exact ⟨L6, h1, by rw [hA, hpo2]; exact h2⟩
  have hks : ∀ (bk bw : Nat), L5.get bk = none → (L5.put bk (.row 38 1 false (List.replicate ((ls.length : Nat) : Int).toNat [.sl true []]))).get bw = none → Rk.Kids L5 ((L5.put bk (.row 38 1 false (List.replicate ((ls.length : Nat) : Int).toNat [.sl true []]))).put bw (.row 2 1 false (List.replicate ((ls.length : Nat) : Int).toNat [.v (.int .i64 0)]))) n bk bw (fun _ => .sl true []) (fun _ => []) (fun _ => 0) := fun bk bw h1 h2 => by
    rw [hnn] at h2 ⊢
    exact Rk.kids_start (Ext.refl _) h1 rfl h2
  apply AWp_drawT [0, 1, 3, 4] [2, 5, 6, 7] (.two 2 (.two 6 (.one 5 (.one 7 .leaf)) 5 (.one 6 (.one 7 .leaf))) 5 (.one 2 (.one 6 (.one 7 .leaf)))) 4 (by exact mixed); kernel_rfl; (simp only [go_sem]; rfl)
  ((iterate 4 (apply e_q; decide; (simp only [go_sem]; rfl))); apply e_nil)
  refine ⟨?_, ?_⟩
  · apply t_make; decide; exact el_32; exact (by simp only [go_sem]; try rfl); exact (by simp only [go_sem]; try rfl); exact zc_38; (refine ⟨by omega, by omega, by decide⟩); (intro _; exact Ext.refl _); intro bk hbk hx1; apply t_nil
    refine ⟨?_, ?_⟩
    · apply t_q; decide; exact (by simp only [go_sem]; try rfl); (intro _; exact hx1 (by decide)); apply t_nil
      apply t_make; decide; exact el_73; exact (by simp only [go_sem]; try rfl); exact (by simp only [go_sem]; try rfl); exact zc_2; (refine ⟨by omega, by omega, by decide⟩); (intro _; exact hx1 (by decide)); intro bw hbw hx2; apply t_nil
      apply t_q; decide; exact (by simp only [go_sem]; try rfl); (intro _; exact hx2 (by decide)); apply t_nil
      simp only [AU, AThen]
      exact hcont bk bw _ _ (hks bk bw hbk hbw) (by simp only [getAll, List.map_cons, List.map_nil, AFr.get, reduceIte, Nat.reduceEqDiff, hnn])
    · apply t_make; decide; exact el_73; exact (by simp only [go_sem]; try rfl); exact (by simp only [go_sem]; try rfl); exact zc_2; (refine ⟨by omega, by omega, by decide⟩); (intro _; exact hx1 (by decide)); intro bw hbw hx2; apply t_nil
      apply t_q; decide; exact (by simp only [go_sem]; try rfl); (intro _; exact hx2 (by decide)); apply t_nil
      apply t_q; decide; exact (by simp only [go_sem]; try rfl); (intro _; exact hx2 (by decide)); apply t_nil
      simp only [AU, AThen]
      exact hcont bk bw _ _ (hks bk bw hbk hbw) (by simp only [getAll, List.map_cons, List.map_nil, AFr.get, reduceIte, Nat.reduceEqDiff, hnn])
  · apply t_make; decide; exact el_73; exact (by simp only [go_sem]; try rfl); exact (by simp only [go_sem]; try rfl); exact zc_2; (refine ⟨by omega, by omega, by decide⟩); (intro _; exact Ext.refl _); intro bw hbw hx2; apply t_nil
    apply t_make; decide; exact el_32; exact (by simp only [go_sem]; try rfl); exact (by simp only [go_sem]; try rfl); exact zc_38; (refine ⟨by omega, by omega, by decide⟩); (intro _; exact hx2 (by decide)); intro bk hbk hx1; apply t_nil
    apply t_q; decide; exact (by simp only [go_sem]; try rfl); (intro _; exact hx1 (by decide)); apply t_nil
    apply t_q; decide; exact (by simp only [go_sem]; try rfl); (intro _; exact hx1 (by decide)); apply t_nil
    have hne : bk ≠ bw := by rintro rfl; rw [AHeap.get_put_same] at hbk; cases hbk
    have hbk2 : L5.get bk = none := none_fresh hbk
    have hbw2 : (L5.put bk (.row 38 1 false (List.replicate ((ls.length : Nat) : Int).toNat [.sl true []]))).get bw = none := by rw [AHeap.get_put, if_neg (Ne.symm hne)]; exact hbw
    rw [AHeap.put_comm hne]
    simp only [AU, AThen]
    exact hcont bk bw _ _ (hks bk bw hbk2 hbw2) (by simp only [getAll, List.map_cons, List.map_nil, AFr.get, reduceIte, Nat.reduceEqDiff, hnn])
end Go.Proofs.YtcpfgjfiacfmoaaGreatDoor

set_option linter.unusedSimpArgs false
set_option linter.unusedVariables false
set_option maxRecDepth 100000
namespace Go.Proofs.YtcpfgjfiacfmoaaGreatDoor
open Go Go.AL
attribute [local irreducible] AOps AWp SOps AE AT ACall AApp

def evS (t s : List UInt8) (c : J) : Ev := ⟨[], t, s, true, [], c, [], [], 0, 0, [], []⟩
def pS : Pa := ⟨[[99], [120], [121]], [evS tCreate [64, 97, 58, 115] (.mk 0 0 [] [] []), evS tPower [64, 98, 58, 115] (.mk 5 0 [] [] []), evS tPower [64, 97, 58, 115] (.mk 5 0 [] [] [])], [[], [], []], [[], [0], [0]], [false, false, false]⟩
theorem snap_ptr (b sz : Nat) (es : List (List AV)) (q : Nat) : AV.snap b sz es (ptrTo q) = ptrTo q := rfl
theorem sample_c (H : AHeap) (K : AV → AHeap → Prop) (h : K (.agg pS.cells) H) : ACall X 35 [] H K := by
  refine ACall.drop (ACall.loose ?_)
  refine ACall_intro Tryz.func35 rfl (by kernel_rfl) (by rw [Tryz.ntmps35]; simp) ?_; rw [Tryz.ntmps35]; simp only [frame0, Nat.reduceAdd]
  refine AWp_seq_k (fun K hK => ?_); apply s_region
  apply s_alloc; decide; exact zc_35; intro r hr
  apply s_nil; simp only [AThen, ABlock]; refine hK _ _ ?_; clear hK K
  generalize hgenq : AHeap.put r _ H = M; obtain ⟨g0, hextq⟩ := gen_ex hgenq hr; have hE := hextq; clear hextq hgenq
  (refine AWp_seq_k (fun K hK => ?_); apply s_region; apply s_q; decide; rfl; (simp only [go_sem]; rfl); apply s_alloc; decide; exact zc_25; intro b hb; apply s_store; (simp only [go_sem]; rfl); (simp only [go_sem]; rfl); (simp only [go_sem]; rfl); apply s_nil; simp only [AThen, ABlock]; refine hK _ _ ?_; clear hK K; refine AWp_seq_k (fun K hK => ?_))
  obtain ⟨q, hnewq⟩ : ∃ q, q = b := ⟨_, rfl⟩; have hq := hb; rw [← hnewq] at hq ⊢; clear hb hnewq; try clear he; clear b
  generalize hgenq : AHeap.put q _ M = M2; obtain ⟨g1, hextq⟩ := gen_ex hgenq hq; have g0 := hextq _ _ g0; have hE := Ext.trans hE hextq; clear hextq hgenq
  have hcont : ∀ (bk bw : Nat) (L : AHeap) (fr' : AFr), Ext M2 L → M2.get bk = none → M2.get bw = none → bk ≠ bw → L.get bk = some (.row 38 1 false [[.sl true []], [.sl true []], [.sl true []]]) → L.get bw = some (.row 4 1 false [[.v (.bool false)], [.v (.bool false)], [.v (.bool false)]]) → getAll [0] fr' = [ptrTo r] →
      K fr' (L.put r (.box 35 [.sl true (pS.names.map strCells), .sl true (pS.events.map fun e => [.s e.room, .s e.type, .s e.sender, .v (.bool e.isState), .s e.key, .v (.int .i64 e.content.kind), .v (.int .i64 e.content.int), .s e.content.text, .sl true [], .sl true [], .sl true [], .sl true [], .v (.int .i64 e.depth), .v (.int .i64 e.ts), .s e.hash, .sl true []]), .row bk 1 3, .sl true (pS.auth.map fun r => [.sl true (r.map intCells)]), .row bw 1 3])) := fun bk bw L fr' hEL hbk hbw hne gk gw hfr => by
    refine hK _ _ (AWp_cut [0] hfr ?_); clear hK hfr K
    simp only [List.zip_cons_cons, List.zip_nil_right]
    have hrk : r ≠ bk := by rintro rfl; rw [g0] at hbk; cases hbk
    have hrw : r ≠ bw := by rintro rfl; rw [g0] at hbw; cases hbw
    have hHk := none_of_ext hE hbk
    have hHw := none_of_ext hE hbw
    have hEr : Ext H L := Ext.trans hE hEL
    refine AWp.snapBox (get_other gk hrk.symm) (AHeap.get_put_same r _ L) ?_
    refine AWp.snapBox (b := bw) (p := r) (get_other (get_other (get_other gw hrw.symm) hne.symm) hrw.symm) (AHeap.get_put_same r _ _) ?_
    simp only [AFr.snap, AV.snap, AV.snaps, AV.snapss, pS, evS, List.map, strCells, intCells, J.kind, J.int, J.text, if_neg hne, if_neg hne.symm, if_true, Nat.le_refl, and_self, List.take, List.length, snap_ptr]
    generalize hL4 : AHeap.put bw _ _ = L4
    have hx4 : Ext H L4 := by rw [← hL4]; exact (((hEr.over hr).over hHk).over hr).over hHw
    clear hL4
    generalize hM5 : AHeap.put r _ L4 = M5
    have g5 : ∀ o, AHeap.put r o L4 = M5 → M5.get r = some o := fun o h => h ▸ AHeap.get_put_same r o L4
    have g5 := g5 _ hM5
    have hx5 : Ext H M5 := by rw [← hM5]; exact hx4.over hr
    clear hM5
    apply AWp_ret
    refine end_ret (av := .agg _) (by show resAV X.P _ _ [.cell 0 35] = _; simp only [go_sem, g5]; rfl) ⟨H, hx5, ?_⟩
    exact h

  apply AWp_drawT [0, 1, 2, 3, 4, 5, 6, 8, 9, 10] [7, 11, 12, 13] (.two 7 (.one 11 (.one 12 (.one 13 .leaf))) 11 (.one 7 (.one 12 (.one 13 .leaf)))) 3 (by exact mixed); kernel_rfl; (simp only [go_sem]; rfl)
  (apply e_lit; decide; exact el_22; (simp only [go_sem, g1]; rfl); (simp only [go_sem, g1]; rfl); decide; (iterate 5 (apply e_q; decide; (simp only [go_sem, g1]; rfl))); apply e_lit; decide; exact el_31; (simp only [go_sem, g1]; rfl); (simp only [go_sem, g1]; rfl); decide; (iterate 2 (apply e_lit; decide; exact el_38; (simp only [go_sem, g1]; rfl); (simp only [go_sem, g1]; rfl); decide)); apply e_lit; decide; exact el_32; (simp only [go_sem, g1]; rfl); (simp only [go_sem, g1]; rfl); decide; apply e_nil)
  refine ⟨?_, ?_⟩
  · apply t_make; decide; exact el_32; exact (by simp only [go_sem]; try rfl); exact (by simp only [go_sem]; try rfl); exact zc_38; (refine ⟨by omega, by omega, by decide⟩); (intro _; exact Ext.refl _); intro bk hbk hx1; apply t_nil
    apply t_make; decide; exact el_33; exact (by simp only [go_sem]; try rfl); exact (by simp only [go_sem]; try rfl); exact zc_4; (refine ⟨by omega, by omega, by decide⟩); (intro _; exact hx1 (by decide)); intro bw hbw hx2; apply t_nil
    apply t_q; decide; exact (by simp only [go_sem]; try rfl); (intro _; exact hx2 (by decide)); apply t_nil
    have hne : bk ≠ bw := by rintro rfl; rw [AHeap.get_put_same] at hbw; cases hbw
    have e3 : Int.toNat 3 = 3 := rfl
    simp only [e3] at hbk hbw hx1 hx2
    have gb := get_fresh (get_fresh g0 hbk (x := .row 38 1 false (List.replicate 3 [.sl true []]))) hbw (x := .row 4 1 false (List.replicate 3 [.v (.bool false)]))
    apply t_storex; exact (by simp only [go_sem]; try rfl); exact (by simp only [go_sem]; try rfl); exact (by simp only [go_sem, gb]; try rfl); (intro h; exact absurd h (by decide)); apply t_nil
    simp only [AU, AThen]
    exact hcont bk bw _ _ (hx2 (by decide)) hbk (none_fresh hbw) hne (get_fresh (AHeap.get_put_same bk _ _) hbw) (AHeap.get_put_same bw _ _) rfl
  · apply t_make; decide; exact el_33; exact (by simp only [go_sem]; try rfl); exact (by simp only [go_sem]; try rfl); exact zc_4; (refine ⟨by omega, by omega, by decide⟩); (intro _; exact Ext.refl _); intro bw hbw hx2; apply t_nil
    apply t_make; decide; exact el_32; exact (by simp only [go_sem]; try rfl); exact (by simp only [go_sem]; try rfl); exact zc_38; (refine ⟨by omega, by omega, by decide⟩); (intro _; exact hx2 (by decide)); intro bk hbk hx1; apply t_nil
    apply t_q; decide; exact (by simp only [go_sem]; try rfl); (intro _; exact hx1 (by decide)); apply t_nil
    have hne : bk ≠ bw := by rintro rfl; rw [AHeap.get_put_same] at hbk; cases hbk
    have e3 : Int.toNat 3 = 3 := rfl
    simp only [e3] at hbk hbw hx1 hx2
    have gb := get_fresh (get_fresh g0 hbw (x := .row 4 1 false (List.replicate 3 [.v (.bool false)]))) hbk (x := .row 38 1 false (List.replicate 3 [.sl true []]))
    apply t_storex; exact (by simp only [go_sem]; try rfl); exact (by simp only [go_sem]; try rfl); exact (by simp only [go_sem, gb]; try rfl); (intro h; exact absurd h (by decide)); apply t_nil
    simp only [AU, AThen]
    exact hcont bk bw _ _ (hx1 (by decide)) (none_fresh hbk) hbw hne (AHeap.get_put_same bk _ _) (get_fresh (AHeap.get_put_same bw _ _) hbk) rfl
theorem pS_right : rightB pS = true := by kernel_rfl
theorem pS_pow : powA pS [1, 2] = [2, 1] := by kernel_rfl
theorem pS_lev2 : levA pS 2 = 100 := by kernel_rfl
theorem pS_lev1 : levA pS 1 = 0 := by kernel_rfl
theorem pS_powers1 : powB (evS tPower [64, 98, 58, 115] (.mk 5 0 [] [] [])) = true := by kernel_rfl
theorem pS_powers0 : powB (evS tCreate [64, 97, 58, 115] (.mk 0 0 [] [] [])) = false := by kernel_rfl
theorem pS_near : nearA pS [] 1 = 0 := by kernel_rfl
theorem evS_wide (t s : List UInt8) (k : Int) (h : s.length ≤ 4611686018427387904) : (evS t s (.mk k 0 [] [] [])).Wide := ⟨J.len_eq.2 ⟨by simp [evS, J.keys], by simp [evS, J.list], by simp [evS, J.list]⟩, by simp [evS], by simp [evS], by simp [evS], h⟩
theorem evS_sml (t s : List UInt8) (k : Int) : Sml (evS t s (.mk k 0 [] [] [])).content := .mk ⟨by simp [evS, J.keys], by simp [evS, J.list], by simp [evS, J.text]⟩ (by simp [evS, J.keys]) (by simp [evS, J.list])
theorem pS_evs : ∀ e ∈ pS.events, e.Wide ∧ Sml e.content := fun e he => by
  simp only [pS, List.mem_cons, List.not_mem_nil, or_false] at he
  rcases he with rfl | rfl | rfl
  · exact ⟨evS_wide _ _ _ (by decide), evS_sml _ _ _⟩
  · exact ⟨evS_wide _ _ _ (by decide), evS_sml _ _ _⟩
  · exact ⟨evS_wide _ _ _ (by decide), evS_sml _ _ _⟩
theorem pS_wide : pS.Wide where
  nm := by decide
  ev := by decide
  pr := by decide
  au := by decide
  de := by decide
  evs := fun e he => (pS_evs e he).1
  prs := by decide
  aus := by decide
  nms := by decide
set_option maxHeartbeats 2000000 in
theorem awake_c (H : AHeap) (K : AV → AHeap → Prop) (h : K (.v (.bool true)) H) : ACall X 14 [] H K := by
  have hR : ∀ (H : AHeap) (K : AV → AHeap → Prop), K (.v (.bool true)) H → ACall X 25 [.agg (pCells pS)] H K := fun H K hk => right_c pS pS_wide H K (by rw [pS_right]; exact hk)
  have hsm : ∀ e ∈ pS.events, Sml e.content := fun e he => (pS_evs e he).2
  have hP : ∀ (H : AHeap) (K : AV → AHeap → Prop), K (.sl false [[.v (.int .i64 2)], [.v (.int .i64 1)]]) H → ACall X 19 [.agg (pCells pS), .sl true [[.v (.int .i64 1)], [.v (.int .i64 2)]]] H K := fun H K hk => byPower_c pS pS_wide hsm (by decide) true [1, 2] (by decide) H K (by rw [pS_pow]; exact hk)
  have hS : ∀ (H : AHeap) (K : AV → AHeap → Prop), K (.v (.bool true)) H → ACall X 18 [.sl false [[.v (.int .i64 2)], [.v (.int .i64 1)]], .sl true [[.v (.int .i64 2)], [.v (.int .i64 1)]]] H K := fun H K hk => same12_c false true [2, 1] [2, 1] (by decide) H K hk
  have hL2 : ∀ (H : AHeap) (K : AV → AHeap → Prop), K (.v (.int .i64 100)) H → ACall X 16 [.agg (pCells pS), .v (.int .i64 2)] H K := fun H K hk => level12_c pS pS_wide hsm 2 H K (by rw [pS_lev2]; exact hk)
  have hL1 : ∀ (H : AHeap) (K : AV → AHeap → Prop), K (.v (.int .i64 0)) H → ACall X 16 [.agg (pCells pS), .v (.int .i64 1)] H K := fun H K hk => level12_c pS pS_wide hsm 1 H K (by rw [pS_lev1]; exact hk)
  have hN : ∀ (H : AHeap) (K : AV → AHeap → Prop), K (.v (.int .i64 0)) H → ACall X 23 [.agg (pCells pS), .sl true [], .v (.int .i64 1)] H K := fun H K hk => near_c pS pS_wide (by decide) true [] (by decide) 1 H K (by rw [pS_near]; exact hk)
  have hW1 : ∀ (H : AHeap) (K : AV → AHeap → Prop), K (.v (.bool true)) H → ACall X 12 [.agg (evS tPower [64, 98, 58, 115] (.mk 5 0 [] [] [])).cells] H K := fun H K hk => powers_c _ (evS_wide _ _ _ (by decide)) H K (by rw [pS_powers1]; exact hk)
  have hW0 : ∀ (H : AHeap) (K : AV → AHeap → Prop), K (.v (.bool false)) H → ACall X 12 [.agg (evS tCreate [64, 97, 58, 115] (.mk 0 0 [] [] [])).cells] H K := fun H K hk => powers_c _ (evS_wide _ _ _ (by decide)) H K (by rw [pS_powers0]; exact hk)
  have hSa : ∀ (H : AHeap) (K : AV → AHeap → Prop), K (.agg (pCells pS)) H → ACall X 35 [] H K := fun H K hk => sample_c H K hk
  have ge0 : (pS.events.map Ev.cells)[0]? = some (evS tCreate [64, 97, 58, 115] (.mk 0 0 [] [] [])).cells := rfl
  have ge1 : (pS.events.map Ev.cells)[1]? = some (evS tPower [64, 98, 58, 115] (.mk 5 0 [] [] [])).cells := rfl
  refine ACall.drop ?_
  refine ACall_intro Tryz.func14 rfl (by kernel_rfl) (by rw [Tryz.ntmps14]; simp) ?_; rw [Tryz.ntmps14]; simp only [frame0, Nat.reduceAdd]
  (refine AWp_seq_k (fun K hK => ?_); apply s_region; apply s_q; decide; rfl; (simp only [go_sem]; rfl); apply s_nil; simp only [AThen, ABlock]; refine hK _ _ ?_; clear hK K; refine AWp_seq_k (fun K hK => ?_); apply s_region; apply s_call; decide; (simp only [go_sem]; rfl); (simp only [go_sem]; rfl); apply hSa; apply s_alloc; decide; exact zc_35; intro b hb; apply s_store; (simp only [go_sem]; rfl); (simp only [go_sem]; rfl); (simp only [go_sem]; rfl); apply s_nil; simp only [AThen, ABlock]; refine hK _ _ ?_; clear hK K; refine AWp_seq_k (fun K hK => ?_); apply s_region; apply s_q; decide; rfl; (simp only [go_sem]; rfl))
  obtain ⟨q, hnewq⟩ : ∃ q, q = b := ⟨_, rfl⟩; have hq := hb; rw [← hnewq] at hq ⊢; clear hb hnewq; try clear he; clear b
  generalize hgenq : AHeap.put q _ H = M; obtain ⟨g1, hextq⟩ := gen_ex hgenq hq; have hE := hextq; clear hextq hgenq
  (apply s_call; decide; (simp only [go_sem, g1, ge0, ge1]; rfl); (simp only [go_sem, g1, ge0, ge1]; rfl); apply hR; apply s_q; decide; rfl; (simp only [go_sem, g1, ge0, ge1]; rfl); apply s_spec; decide; rfl; rfl; (simp only [go_sem, g1, ge0, ge1]; rfl); (simp only [go_sem, g1, ge0, ge1]; rfl); (simp only [go_sem, g1, ge0, ge1]; rfl); (simp only [go_sem, g1, ge0, ge1]; rfl); trivial; apply s_glit; decide; (simp only [go_sem, g1, ge0, ge1]; rfl); (simp only [go_sem, g1, ge0, ge1]; rfl); (simp only [go_sem, g1, ge0, ge1]; rfl); trivial; exact el_38; (simp only [go_sem, g1, ge0, ge1]; rfl); (simp only [go_sem, g1, ge0, ge1]; rfl); decide; apply s_gpure; decide; (simp only [go_sem, g1, ge0, ge1]; rfl); (simp only [go_sem, g1, ge0, ge1]; rfl); (simp only [go_sem, g1, ge0, ge1]; rfl); trivial; (simp only [go_sem, g1, ge0, ge1]; rfl); (simp only [go_sem, g1, ge0, ge1]; rfl); (apply hP; exact ⟨rfl, rfl⟩); apply s_glit; decide; (simp only [go_sem, g1, ge0, ge1]; rfl); (simp only [go_sem, g1, ge0, ge1]; rfl); (simp only [go_sem, g1, ge0, ge1]; rfl); trivial; exact el_38; (simp only [go_sem, g1, ge0, ge1]; rfl); (simp only [go_sem, g1, ge0, ge1]; rfl); decide; apply s_gpure; decide; (simp only [go_sem, g1, ge0, ge1]; rfl); (simp only [go_sem, g1, ge0, ge1]; rfl); (simp only [go_sem, g1, ge0, ge1]; rfl); trivial; (simp only [go_sem, g1, ge0, ge1]; rfl); (simp only [go_sem, g1, ge0, ge1]; rfl); (apply hS; exact ⟨rfl, rfl⟩); apply s_pick; decide; (simp only [go_sem, g1, ge0, ge1]; rfl); (simp only [go_sem, g1, ge0, ge1]; rfl); (simp only [go_sem, g1, ge0, ge1]; rfl); (simp only [go_sem, g1, ge0, ge1]; rfl); (simp only [go_sem, g1, ge0, ge1]; rfl); (simp only [go_sem, g1, ge0, ge1]; rfl); trivial; trivial; trivial; apply s_q; decide; rfl; (simp only [go_sem, g1, ge0, ge1]; rfl); apply s_spec; decide; rfl; rfl; (simp only [go_sem, g1, ge0, ge1]; rfl); (simp only [go_sem, g1, ge0, ge1]; rfl); (simp only [go_sem, g1, ge0, ge1]; rfl); (simp only [go_sem, g1, ge0, ge1]; rfl); trivial; apply s_gpure; decide; (simp only [go_sem, g1, ge0, ge1]; rfl); (simp only [go_sem, g1, ge0, ge1]; rfl); (simp only [go_sem, g1, ge0, ge1]; rfl); trivial; (simp only [go_sem, g1, ge0, ge1]; rfl); (simp only [go_sem, g1, ge0, ge1]; rfl); (apply hL2; exact ⟨rfl, rfl⟩); apply s_spec; decide; rfl; rfl; (simp only [go_sem, g1, ge0, ge1]; rfl); (simp only [go_sem, g1, ge0, ge1]; rfl); (simp only [go_sem, g1, ge0, ge1]; rfl); (simp only [go_sem, g1, ge0, ge1]; rfl); trivial; apply s_pick; decide; (simp only [go_sem, g1, ge0, ge1]; rfl); (simp only [go_sem, g1, ge0, ge1]; rfl); (simp only [go_sem, g1, ge0, ge1]; rfl); (simp only [go_sem, g1, ge0, ge1]; rfl); (simp only [go_sem, g1, ge0, ge1]; rfl); (simp only [go_sem, g1, ge0, ge1]; rfl); trivial; trivial; trivial; apply s_q; decide; rfl; (simp only [go_sem, g1, ge0, ge1]; rfl); apply s_spec; decide; rfl; rfl; (simp only [go_sem, g1, ge0, ge1]; rfl); (simp only [go_sem, g1, ge0, ge1]; rfl); (simp only [go_sem, g1, ge0, ge1]; rfl); (simp only [go_sem, g1, ge0, ge1]; rfl); trivial; apply s_gpure; decide; (simp only [go_sem, g1, ge0, ge1]; rfl); (simp only [go_sem, g1, ge0, ge1]; rfl); (simp only [go_sem, g1, ge0, ge1]; rfl); trivial; (simp only [go_sem, g1, ge0, ge1]; rfl); (simp only [go_sem, g1, ge0, ge1]; rfl); (apply hL1; exact ⟨rfl, rfl⟩); apply s_spec; decide; rfl; rfl; (simp only [go_sem, g1, ge0, ge1]; rfl); (simp only [go_sem, g1, ge0, ge1]; rfl); (simp only [go_sem, g1, ge0, ge1]; rfl); (simp only [go_sem, g1, ge0, ge1]; rfl); trivial; apply s_pick; decide; (simp only [go_sem, g1, ge0, ge1]; rfl); (simp only [go_sem, g1, ge0, ge1]; rfl); (simp only [go_sem, g1, ge0, ge1]; rfl); (simp only [go_sem, g1, ge0, ge1]; rfl); (simp only [go_sem, g1, ge0, ge1]; rfl); (simp only [go_sem, g1, ge0, ge1]; rfl); trivial; trivial; trivial; apply s_q; decide; rfl; (simp only [go_sem, g1, ge0, ge1]; rfl); (iterate 2 (apply s_spec; decide; rfl; rfl; (simp only [go_sem, g1, ge0, ge1]; rfl); (simp only [go_sem, g1, ge0, ge1]; rfl); (simp only [go_sem, g1, ge0, ge1]; rfl); (simp only [go_sem, g1, ge0, ge1]; rfl); trivial)); apply s_when; decide; (simp only [go_sem, g1, ge0, ge1]; rfl); (simp only [go_sem, g1, ge0, ge1]; rfl); (simp only [go_sem, g1, ge0, ge1]; rfl); trivial; (intro hg; (focus (simp only [go_sem, g1, ge0, ge1]; (try rfl); done))); apply s_spec; decide; rfl; rfl; (simp only [go_sem, g1, ge0, ge1]; rfl); (simp only [go_sem, g1, ge0, ge1]; rfl); (simp only [go_sem, g1, ge0, ge1]; rfl); (simp only [go_sem, g1, ge0, ge1]; rfl); trivial; apply s_gpure; decide; (simp only [go_sem, g1, ge0, ge1]; rfl); (simp only [go_sem, g1, ge0, ge1]; rfl); (simp only [go_sem, g1, ge0, ge1]; rfl); trivial; (simp only [go_sem, g1, ge0, ge1]; rfl); (simp only [go_sem, g1, ge0, ge1]; rfl); (apply hW1; exact ⟨rfl, rfl⟩); apply s_pick; decide; (simp only [go_sem, g1, ge0, ge1]; rfl); (simp only [go_sem, g1, ge0, ge1]; rfl); (simp only [go_sem, g1, ge0, ge1]; rfl); (simp only [go_sem, g1, ge0, ge1]; rfl); (simp only [go_sem, g1, ge0, ge1]; rfl); (simp only [go_sem, g1, ge0, ge1]; rfl); trivial; trivial; trivial; apply s_q; decide; rfl; (simp only [go_sem, g1, ge0, ge1]; rfl); (iterate 2 (apply s_spec; decide; rfl; rfl; (simp only [go_sem, g1, ge0, ge1]; rfl); (simp only [go_sem, g1, ge0, ge1]; rfl); (simp only [go_sem, g1, ge0, ge1]; rfl); (simp only [go_sem, g1, ge0, ge1]; rfl); trivial)); apply s_when; decide; (simp only [go_sem, g1, ge0, ge1]; rfl); (simp only [go_sem, g1, ge0, ge1]; rfl); (simp only [go_sem, g1, ge0, ge1]; rfl); trivial; (intro hg; (focus (simp only [go_sem, g1, ge0, ge1]; (try rfl); done))); apply s_spec; decide; rfl; rfl; (simp only [go_sem, g1, ge0, ge1]; rfl); (simp only [go_sem, g1, ge0, ge1]; rfl); (simp only [go_sem, g1, ge0, ge1]; rfl); (simp only [go_sem, g1, ge0, ge1]; rfl); trivial; apply s_gpure; decide; (simp only [go_sem, g1, ge0, ge1]; rfl); (simp only [go_sem, g1, ge0, ge1]; rfl); (simp only [go_sem, g1, ge0, ge1]; rfl); trivial; (simp only [go_sem, g1, ge0, ge1]; rfl); (simp only [go_sem, g1, ge0, ge1]; rfl); (apply hW0; exact ⟨rfl, rfl⟩); apply s_spec; decide; rfl; rfl; (simp only [go_sem, g1, ge0, ge1]; rfl); (simp only [go_sem, g1, ge0, ge1]; rfl); (simp only [go_sem, g1, ge0, ge1]; rfl); (simp only [go_sem, g1, ge0, ge1]; rfl); trivial; apply s_pick; decide; (simp only [go_sem, g1, ge0, ge1]; rfl); (simp only [go_sem, g1, ge0, ge1]; rfl); (simp only [go_sem, g1, ge0, ge1]; rfl); (simp only [go_sem, g1, ge0, ge1]; rfl); (simp only [go_sem, g1, ge0, ge1]; rfl); (simp only [go_sem, g1, ge0, ge1]; rfl); trivial; trivial; trivial; apply s_q; decide; rfl; (simp only [go_sem, g1, ge0, ge1]; rfl); apply s_spec; decide; rfl; rfl; (simp only [go_sem, g1, ge0, ge1]; rfl); (simp only [go_sem, g1, ge0, ge1]; rfl); (simp only [go_sem, g1, ge0, ge1]; rfl); (simp only [go_sem, g1, ge0, ge1]; rfl); trivial; apply s_gpure; decide; (simp only [go_sem, g1, ge0, ge1]; rfl); (simp only [go_sem, g1, ge0, ge1]; rfl); (simp only [go_sem, g1, ge0, ge1]; rfl); trivial; (simp only [go_sem, g1, ge0, ge1]; rfl); (simp only [go_sem, g1, ge0, ge1]; rfl); (apply hN; exact ⟨rfl, rfl⟩); apply s_spec; decide; rfl; rfl; (simp only [go_sem, g1, ge0, ge1]; rfl); (simp only [go_sem, g1, ge0, ge1]; rfl); (simp only [go_sem, g1, ge0, ge1]; rfl); (simp only [go_sem, g1, ge0, ge1]; rfl); trivial; apply s_pick; decide; (simp only [go_sem, g1, ge0, ge1]; rfl); (simp only [go_sem, g1, ge0, ge1]; rfl); (simp only [go_sem, g1, ge0, ge1]; rfl); (simp only [go_sem, g1, ge0, ge1]; rfl); (simp only [go_sem, g1, ge0, ge1]; rfl); (simp only [go_sem, g1, ge0, ge1]; rfl); trivial; trivial; trivial; apply s_q; decide; rfl; (simp only [go_sem, g1, ge0, ge1]; rfl); apply s_nil; simp only [AThen, ABlock]; refine hK _ _ ?_; clear hK K; apply AWp_ret)
  exact ⟨H, hE, h⟩
end Go.Proofs.YtcpfgjfiacfmoaaGreatDoor

set_option linter.unusedSimpArgs false
set_option linter.unusedVariables false
set_option maxRecDepth 100000
namespace Go.Proofs.YtcpfgjfiacfmoaaGreatDoor
open Go Go.AL
attribute [local irreducible] AOps AWp SOps AE AT ACall AApp

set_option maxHeartbeats 8000000 in
theorem rbyLine_c (p : Pa) (hw : p.Wide) (hn : p.events.length ≤ 1000) (t : Bool) (l : List Int) (hl : l.length ≤ 1000) (power : Int) (H : AHeap) (Kc : AV → AHeap → Prop) (h : ∀ s, ByLine p l power s → Kc (.sl false (s.map intCells)) H) : ACall X 31 [.agg p.cells, .sl t (l.map intCells), .v (.int .i64 power)] H Kc := by
  refine ACall.grE (e := 3) (sz := 1) (S := fun es => ∃ s, es = s.map intCells ∧ ByLine p l power s) (fun es hs => by obtain ⟨s, rfl, hs⟩ := hs; exact h s hs) ?_
  clear h
  have hR : ∀ (H : AHeap) (K : AV → AHeap → Prop), K (.v (.bool (rightB p))) H → ACall X 26 [.agg (pCells p)] H K := fun H K hK => rright_c p hw H K hK
  have hL : ∀ (H : AHeap) (K : AV → AHeap → Prop), K (.sl false ((lineA p power).map intCells)) H → ACall X 22 [.agg (pCells p), .v (.int .i64 power)] H K := fun H K hK => rline_c p hw hn power H K hK
  have hT : ∀ (H : AHeap) (K : AV → AHeap → Prop), K (.sl false ((setL p.events.length l).map intCells)) H → ACall X 53 [.agg (pCells p), .sl t (l.map intCells)] H K := fun H K hK => set_c p hw hn t l hl H K hK
  have hll := lineA_len (p := p) (i := power)
  have hN : ∀ (i : Int) (H : AHeap) (K : AV → AHeap → Prop), K (.v (.int .i64 (nearA p (lineA p power) i))) H → ACall X 24 [.agg (pCells p), .sl false ((lineA p power).map intCells), .v (.int .i64 i)] H K := fun i H K hK => rnear_c p hw hn false (lineA p power) (by omega) i H K hK
  rw [Pa.cells]
  refine ACall_intro Tryz.func31 rfl (by kernel_rfl) (by rw [Tryz.ntmps31]; simp) ?_; rw [Tryz.ntmps31]; simp only [frame0, Nat.reduceAdd]
  refine AWp_seq_k (fun K hK => ?_); apply s_region
  apply s_box; decide; exact (by simp only [go_sem]; try rfl); exact (by simp only [go_sem]; try rfl); intro q hq
  generalize hgenq : AHeap.put q _ H = M; obtain ⟨g1, hextq⟩ := gen_ex hgenq hq; have hE := hextq; clear hextq hgenq
  (apply s_q; decide; rfl; (simp only [go_sem, g1]; rfl); apply s_nil; simp only [AThen, ABlock]; refine hK _ _ ?_; clear hK K; (iterate 2 (refine AWp_seq_k (fun K hK => ?_))); apply s_region; apply s_q; decide; rfl; (simp only [go_sem, g1]; rfl); apply s_call; decide; (simp only [go_sem, g1]; rfl); (simp only [go_sem, g1]; rfl); apply hR; apply s_q; decide; rfl; (simp only [go_sem, g1]; rfl); apply s_nil; simp only [AThen, ABlock]; refine hK _ _ ?_; clear hK K)
  refine cond_split (by simp only [go_sem]; try rfl) (fun hc => ?_) (fun hc => ?_)
  · have hc : rightB p = false := by simpa using hc
    (refine AWp_seq_k (fun K hK => ?_); apply s_region; apply s_q; decide; rfl; (simp only [go_sem]; rfl); apply s_nil; simp only [AThen, ABlock]; refine hK _ _ ?_; clear hK K; apply AWp_ret; simp only [AThen, ABlock]; apply end_ret; rfl; simp only [AFr.get, reduceIte, Nat.reduceEqDiff])
    exact ⟨[], ⟨[], rfl, by rw [ByLine, if_neg (by rw [hc]; decide)]⟩, M, hE, .inl ⟨rfl, rfl, rfl⟩⟩
  have hc : rightB p = true := by simpa using hc
  have hr := right_true hc
  (apply AWp_skip; simp only [AThen, ABlock]; refine hK _ _ ?_; clear hK K; refine AWp_seq_k (fun K hK => ?_); apply s_region; (iterate 2 (apply s_q; decide; rfl; (simp only [go_sem, g1]; rfl))); apply s_call; decide; (simp only [go_sem, g1]; rfl); (simp only [go_sem, g1]; rfl); apply hL; apply s_q; decide; rfl; (simp only [go_sem, g1]; rfl); apply s_nil; simp only [AThen, ABlock]; refine hK _ _ ?_; clear hK K; refine AWp_seq_k (fun K hK => ?_); apply s_region; (iterate 2 (apply s_q; decide; rfl; (simp only [go_sem, g1]; rfl))); apply s_call; decide; (simp only [go_sem, g1]; rfl); (simp only [go_sem, g1]; rfl); apply hT; apply s_q; decide; rfl; (simp only [go_sem, g1]; rfl); apply s_nil; simp only [AThen, ABlock]; refine hK _ _ ?_; clear hK K; refine AWp_seq_k (fun K hK => ?_); apply s_region; apply s_q; decide; rfl; (simp only [go_sem, g1]; rfl); apply s_nil; simp only [AThen, ABlock]; refine hK _ _ ?_; clear hK K; refine AWp_seq_k (fun K hK => ?_); apply AWp_block)
  have hln := setL_len p.events.length l
  have hnd := setL_nd p.events.length l
  have hpo := setL_pos (n := p.events.length) (l := l)
  have hBy : ∀ s, Ordered p (nearF p (lineA p power)) (setL p.events.length l) s → ByLine p l power s := fun s hs => by rw [ByLine, if_pos hc]; exact hs
  generalize setL p.events.length l = ls at hln hnd hpo hBy ⊢
  obtain ⟨F, hF⟩ : ∃ F, nearF p (lineA p power) = F := ⟨_, rfl⟩
  have hFx : ∀ x, nearA p (lineA p power) x = F x := fun x => by rw [← hF]; rfl
  rw [hF] at hBy
  simp only [hFx] at hN
  refine AWp_loop_s (σ := List Int × List Int × AV × AV × AHeap × AHeap) [8, 3, 7, 9] (fun s => [s.2.2.1, ptrTo q, .sl false ((lineA p power).map intCells), s.2.2.2.1]) (fun s => s.2.2.2.2.1) (fun s => s.1.length)
    (fun s => ((s.2.2.1 = .sl false (s.1.map intCells) ∧ s.2.2.2.2.2 = s.2.2.2.2.1) ∨ Gr 3 1 s.2.2.2.2.2 (s.1.map intCells) s.2.2.1 s.2.2.2.2.1) ∧ s.2.2.2.2.2.get q = some (.box 35 (pCells p)) ∧ Ext H s.2.2.2.2.2 ∧ RowAt 3 1 H s.2.2.2.2.2 (s.2.1.map intCells) s.2.2.2.1 ∧
      (∀ r, r.Pairwise (fun a c => ltB p F a c = true) → r.Perm s.1 → (s.2.1 ++ r).Pairwise (fun a c => ltB p F a c = true) ∧ (s.2.1 ++ r).Perm ls) ∧ s.1.Nodup ∧ (∀ x ∈ s.1, 0 ≤ x ∧ x < p.events.length) ∧ s.2.1.length + s.1.length ≤ 1000)
    (ls, [], .sl false (ls.map intCells), .sl true [], M, M) ⟨.inl ⟨rfl, rfl⟩, g1, hE, RowAt.nil _ _ _ _, fun r h1 h2 => ⟨h1, h2⟩, hnd, hpo, by simp only [List.length_nil]; omega⟩ rfl rfl (fun s hs => ?_)
  obtain ⟨left, out, a, o, L, L0⟩ := s
  obtain ⟨hA, gq, hEL, hRo, hOr, hlnd, hlpo, hlen⟩ := hs
  clear g1 hE
  simp only [List.zip_cons_cons, List.zip_nil_right] at hA gq hEL hRo hOr hlnd hlpo hlen ⊢
  have hgo : ∀ {cd : Code} {Q : Exit → AFr → AHeap → Prop}, AWp X { n := 85, ro := none } cd Q [(8, .sl false (left.map intCells)), (3, ptrTo q), (7, .sl false ((lineA p power).map intCells)), (9, o)] L0 → AWp X { n := 85, ro := none } cd Q [(8, a), (3, ptrTo q), (7, .sl false ((lineA p power).map intCells)), (9, o)] L := fun {cd Q} hh => by
    rcases hA with ⟨rfl, rfl⟩ | hG
    · exact hh
    · refine AWp_gr2 hG (fun b hb => ?_) hh
      have ho : AV.snap b 1 (left.map intCells) o = o := by
        rcases hRo with ⟨rfl, _⟩ | ⟨b2, _, rfl, h3⟩
        · rfl
        · have : b2 ≠ b := by rintro rfl; rw [h3] at hb; cases hb
          simp [AV.snap, this]
      simp only [AFr.snap, ptrTo, AV.snap, snap_ints, ho]
  refine hgo ?_
  clear hgo hA
  ((iterate 2 (refine AWp_seq_k (fun K hK => ?_))); apply s_region; (iterate 3 (apply s_q; decide; rfl; (simp only [go_sem]; rfl))); apply s_nil; simp only [AThen, ABlock]; refine hK _ _ ?_; clear hK K)
  refine cond_split (by simp only [go_sem]; try rfl) (fun hd => ?_) (fun hd => ?_)
  rotate_left
  · have hnil : left = [] := by
      cases left with
      | nil => rfl
      | cons x l => simp at hd <;> omega
    subst hnil
    (apply AWp_exit; simp only [AThen, ABlock, reduceIte, Nat.reduceEqDiff]; clear hK K; refine hK _ _ ?_; clear hK K; refine AWp_seq_k (fun K hK => ?_); apply s_region; (iterate 2 (apply s_q; decide; rfl; (simp only [go_sem]; rfl))); apply s_nil; simp only [AThen, ABlock]; refine hK _ _ ?_; clear hK K; apply AWp_ret)
    obtain ⟨h1, h2⟩ := hOr [] .nil (List.Perm.refl _)
    rw [List.append_nil] at h1 h2
    obtain ⟨L6, h3, h4⟩ := hRo.toGr hEL
    exact ⟨_, ⟨_, rfl, hBy _ ⟨h1, h2⟩⟩, L6, h3, h4⟩
  have hpos : 0 < left.length := by simpa using hd
  (apply AWp_skip; simp only [AThen, ABlock]; refine hK _ _ ?_; clear hK K; apply AWp_block; refine AWp_seq_k (fun K hK => ?_); apply s_region; apply s_q; decide; rfl; (simp only [go_sem]; rfl); apply s_nil; simp only [AThen, ABlock]; refine hK _ _ ?_; clear hK K; (iterate 2 (refine AWp_seq_k (fun K hK => ?_))); apply s_region; apply s_q; decide; rfl; (simp only [go_sem]; rfl); apply s_nil; simp only [AThen, ABlock]; refine hK _ _ ?_; clear hK K; apply AWp_block)
  refine AWp_loop_s (σ := Nat) [8, 3, 7, 9, 10, 11] (fun k => [.sl false (left.map intCells), ptrTo q, .sl false ((lineA p power).map intCells), o, .v (.int .i64 ((bestI (ltB p F) left k : Nat) : Int)), .v (.int .i64 ((k + 1 : Nat) : Int))]) (fun _ => L0) (fun k => left.length - k) (fun k => k < left.length) 0 hpos rfl rfl (fun k hk => ?_)
  simp only [List.zip_cons_cons, List.zip_nil_right]
  have hble := bestI_le (ltB p F) left k
  ((iterate 2 (refine AWp_seq_k (fun K hK => ?_))); apply s_region; (iterate 4 (apply s_q; decide; rfl; (simp only [go_sem]; rfl))); apply s_nil; simp only [AThen, ABlock]; refine hK _ _ ?_; clear hK K)
  refine cond_split (by simp only [go_sem]; try rfl) (fun he => ?_) (fun he => ?_)
  · have hkl : k + 1 < left.length := by simp at he; omega
    obtain ⟨x, hx⟩ := gete hkl
    obtain ⟨y, hy⟩ := gete (l := left) (i := bestI (ltB p F) left k) (by omega)
    have hgx := int_at hx
    have hgy := int_at hy
    have hx2 := hlpo x (List.mem_of_getElem? hx)
    have hy2 := hlpo y (List.mem_of_getElem? hy)
    obtain ⟨xn, rfl⟩ : ∃ n : Nat, x = n := ⟨x.toNat, by omega⟩
    obtain ⟨yn, rfl⟩ : ∃ n : Nat, y = n := ⟨y.toNat, by omega⟩
    have hnext : bestI (ltB p F) left (k + 1) = if ltB p F xn yn = true then k + 1 else bestI (ltB p F) left k := by
      rw [bestI, hx, hy]
    have hlt : (ltB p F xn yn = true) = (F yn < F xn ∨ (F xn = F yn ∧ ageI p xn yn < 0)) := by
      have e9 : (ageI p xn yn < 0) = ageLt p xn yn := propext age_neg
      rw [propext (ltB_iff (p := p) (ff := F)), ordLt, Int.toNat_natCast, Int.toNat_natCast, e9]
    have hY : ∀ (H : AHeap) (K : AV → AHeap → Prop), K (.v (.bool (decide (ageI p xn yn < 0)))) H → ACall X 54 [.agg (pCells p), .v (.int .i64 yn), .v (.int .i64 xn)] H K := fun H K hK => younger_c p hr yn xn (by omega) (by omega) H K hK
    generalize bestI (ltB p F) left k = bk at hble hy hgy hnext ⊢
    (apply AWp_skip; simp only [AThen, ABlock]; refine hK _ _ ?_; clear hK K; refine AWp_seq_k (fun K hK => ?_); apply AWp_block; refine AWp_seq_k (fun K hK => ?_))
    apply AWp_drawA [0, 1, 2, 3, 4, 5, 6, 7, 8, 9, 10, 11, 12, 13, 14, 15] [] 0 (by exact mixed); kernel_rfl; (simp only [go_sem]; rfl); (simp only [go_sem]; rfl)
    ((iterate 6 (apply e_q; decide; (simp only [go_sem, gq, hgx, hgy]; rfl))); apply e_call; decide; (simp only [go_sem, gq, hgx, hgy]; rfl); (simp only [go_sem, gq, hgx, hgy]; rfl); (apply hN; exact ⟨rfl, rfl⟩); (iterate 6 (apply e_q; decide; (simp only [go_sem, gq, hgx, hgy]; rfl))); apply e_call; decide; (simp only [go_sem, gq, hgx, hgy]; rfl); (simp only [go_sem, gq, hgx, hgy]; rfl); (apply hN; exact ⟨rfl, rfl⟩); (iterate 2 (apply e_q; decide; (simp only [go_sem, gq, hgx, hgy]; rfl))); apply e_nil; apply t_nil; simp only [AThen, ABlock]; refine hK _ _ ?_; clear hK K; refine AWp_seq_k (fun K hK => ?_))
    apply AWp_drawA [0, 1, 2, 3, 4, 5, 6, 7, 8, 9, 10, 11, 12, 13, 14, 15, 16, 17, 18, 19] [] 0 (by exact mixed); kernel_rfl; (simp only [go_sem]; rfl); (simp only [go_sem]; rfl)
    ((iterate 4 (apply e_q; decide; (simp only [go_sem, gq, hgx, hgy]; rfl))); (iterate 2 (apply e_spec; decide; (simp only [go_sem, gq, hgx, hgy]; rfl); (simp only [go_sem, gq, hgx, hgy]; rfl); (simp only [go_sem, gq, hgx, hgy]; rfl); (simp only [go_sem, gq, hgx, hgy]; rfl); trivial)); (iterate 2 (apply e_spec; decide; (simp only [go_sem, gq, hgx, hgy]; rfl); (simp only [go_sem, gq, hgx, hgy]; rfl); (simp only [go_sem, gq, hgx, hgy]; rfl); (simp only [go_sem, gq, hgx, hgy]; rfl); simp [condsOk])); (iterate 3 (apply e_spec; decide; (simp only [go_sem, gq, hgx, hgy]; rfl); (simp only [go_sem, gq, hgx, hgy]; rfl); (simp only [go_sem, gq, hgx, hgy]; rfl); (simp only [go_sem, gq, hgx, hgy]; rfl); trivial)); (iterate 2 (apply e_spec; decide; (simp only [go_sem, gq, hgx, hgy]; rfl); (simp only [go_sem, gq, hgx, hgy]; rfl); (simp only [go_sem, gq, hgx, hgy]; rfl); (simp only [go_sem, gq, hgx, hgy]; rfl); simp [condsOk])); (iterate 2 (apply e_spec; decide; (simp only [go_sem, gq, hgx, hgy]; rfl); (simp only [go_sem, gq, hgx, hgy]; rfl); (simp only [go_sem, gq, hgx, hgy]; rfl); (simp only [go_sem, gq, hgx, hgy]; rfl); trivial)); (iterate 2 (apply e_spec; decide; (simp only [go_sem, gq, hgx, hgy]; rfl); (simp only [go_sem, gq, hgx, hgy]; rfl); (simp only [go_sem, gq, hgx, hgy]; rfl); (simp only [go_sem, gq, hgx, hgy]; rfl); simp [condsOk])); apply e_gpure; decide; (simp only [go_sem, gq, hgx, hgy]; rfl); (simp only [go_sem, gq, hgx, hgy]; rfl); (simp only [go_sem, gq, hgx, hgy]; rfl); simp [condsOk]; (simp only [go_sem, gq, hgx, hgy]; rfl); (simp only [go_sem, gq, hgx, hgy]; rfl); (apply hY; exact ⟨rfl, rfl⟩); apply e_pickg; decide; (simp only [go_sem, gq, hgx, hgy]; rfl); (simp only [go_sem, gq, hgx, hgy]; rfl); (simp only [go_sem, gq, hgx, hgy]; rfl); (simp only [go_sem, gq, hgx, hgy]; rfl); (simp only [go_sem, gq, hgx, hgy]; rfl); (simp only [go_sem, gq, hgx, hgy]; rfl); (simp only [go_sem, gq, hgx, hgy]; rfl); (simp only [go_sem, gq, hgx, hgy]; rfl); simp [condsOk]; simp [condsOk]; trivial; apply e_pick; decide; (simp only [go_sem, gq, hgx, hgy]; rfl); (simp only [go_sem, gq, hgx, hgy]; rfl); (simp only [go_sem, gq, hgx, hgy]; rfl); (simp only [go_sem, gq, hgx, hgy]; rfl); (simp only [go_sem, gq, hgx, hgy]; rfl); (simp only [go_sem, gq, hgx, hgy]; rfl); trivial; trivial; simp [condsOk]; apply e_nil; apply t_nil; simp only [AThen, ABlock]; refine hK _ _ ?_; clear hK K)
    refine cond_split (by simp only [go_sem]; try rfl) (fun hz => ?_) (fun hz => ?_)
    · have hyes : ltB p F xn yn = true := by
        rw [hlt]; revert hz
        by_cases e1 : F yn < F xn
        · simp [e1]
        · by_cases e2 : F xn = F yn <;> simp [e2]
      rw [if_pos hyes] at hnext
      (apply s_region; (iterate 2 (apply s_q; decide; rfl; (simp only [go_sem]; rfl))); apply s_nil; simp only [AThen, ABlock]; refine hK _ _ ?_; clear hK K; apply s_region; (iterate 3 (apply s_q; decide; rfl; (simp only [go_sem]; rfl))); apply s_nil; simp only [AThen, ABlock])
      refine ⟨k + 1, by omega, hkl, ?_, by trivial⟩
      simp only [getAll, List.map_cons, List.map_nil, AFr.get, reduceIte, Nat.reduceEqDiff]
      rw [hnext, wrapS hkl (by omega)]; try rfl
    · have hno : ¬ ltB p F xn yn = true := by
        rw [hlt]; revert hz
        by_cases e1 : F yn < F xn
        · simp [e1]
        · by_cases e2 : F xn = F yn
          · simp [e2]
          · simp [e1, e2]
      rw [if_neg hno] at hnext
      (apply AWp_skip; simp only [AThen, ABlock]; refine hK _ _ ?_; clear hK K; apply s_region; (iterate 3 (apply s_q; decide; rfl; (simp only [go_sem]; rfl))); apply s_nil; simp only [AThen, ABlock])
      refine ⟨k + 1, by omega, hkl, ?_, by trivial⟩
      simp only [getAll, List.map_cons, List.map_nil, AFr.get, reduceIte, Nat.reduceEqDiff]
      rw [hnext, wrapS hkl (by omega)]; try rfl
  · have hkl : k + 1 = left.length := by simp at he; omega
    obtain ⟨x, hx⟩ := gete (l := left) (i := bestI (ltB p F) left k) (by omega)
    have hgx := int_at hx
    have hmin : ∀ y ∈ left, ltB p F y x = false := fun y hy => by
      obtain ⟨m, hm, e⟩ := List.mem_iff_getElem.1 hy
      exact bestI_ok (ltB_irr p F) (ltB_tr p F) (ltB_asy p F) k hk x hx m (by omega) y (by rw [← e]; exact List.getElem?_eq_getElem hm)
    generalize bestI (ltB p F) left k = bk at hble hx hgx ⊢
    have hbl : bk < left.length := by omega
    (apply AWp_exit; simp only [AThen, ABlock, reduceIte, Nat.reduceEqDiff]; clear hK K; refine hK _ _ ?_; clear hK K; refine AWp_seq_k (fun K hK => ?_); apply s_region; (iterate 5 (apply s_q; decide; rfl; (simp only [go_sem, hgx]; rfl))); apply s_lit; decide; exact el_38; (simp only [go_sem, hgx]; rfl); (simp only [go_sem, hgx]; rfl); decide; apply s_append; decide; (simp only [go_sem, hgx]; rfl); (simp only [go_sem, hgx]; rfl); apply AApp_at el_38 hEL hRo (l := out) (m := [x]) (g := intCells) rfl rfl tk_38 int_one (by simp; omega) (by simp; omega); intro o2 L1 b1 b2 b3; apply s_q; decide; rfl; (simp only [go_sem, hgx]; rfl); apply s_nil; simp only [AThen, ABlock]; refine hK _ _ ?_; clear hK K)
    have gq1 := b3 _ _ gq (fun _ _ _ h => by cases h)
    have hal : (left.map intCells).all (fun c => c.length == 1) = true := by
      rw [List.all_eq_true]
      intro c hc'
      obtain ⟨d, _, rfl⟩ := List.mem_map.1 hc'
      rfl
    have hs1 : sliceK (.sl 3 (some 1)) (.sl false (left.map intCells)) none (some (.v (.int .i64 ((bk : Nat) : Int)))) none = some (.sl false ((left.take bk).map intCells)) := by
      have : bk ≤ left.length := by omega
      simp only [sliceK, boundV, Int.toNat_natCast, List.length_map, hal]
      simp [this, List.map_take]
    have hs2 : sliceK (.sl 3 (some 1)) (.sl false (left.map intCells)) (some (.v (.int .i64 ((bk + 1 : Nat) : Int)))) none none = some (.sl false ((left.drop (bk + 1)).map intCells)) := by
      have : bk + 1 ≤ left.length := by omega
      have h0 : (0 : Int) ≤ (bk : Int) + 1 := by omega
      simp only [sliceK, boundV, Int.toNat_natCast, List.length_map, hal]
      simp [this, h0, List.map_drop, List.take_of_length_le]
    have hwb : IntKind.i64.wrap ((bk : Int) + 1) = ((bk + 1 : Nat) : Int) := wrapS hbl (by omega)
    apply AWp_drawA [0, 1, 2, 3, 5, 6, 7, 8] [4, 9, 10] 1 (by exact mixed); kernel_rfl; (simp only [go_sem]; rfl); (simp only [go_sem]; rfl)
    (apply e_lit; decide; exact el_38; (simp only [go_sem, hwb]; rfl); (simp only [go_sem, hwb]; rfl); decide; (iterate 2 (apply e_q; decide; (simp only [go_sem, hwb]; rfl))); (apply e_q; decide; (simp only [pvK, AFr.ev, AFr.evS, AV.strip, AFr.get, reduceIte, Nat.reduceEqDiff, tk_38, Option.map_some, Option.map_none, AV.ofC]; exact hs1)); (iterate 3 (apply e_q; decide; (simp only [go_sem, hwb]; rfl))); (apply e_q; decide; (simp only [pvK, AFr.ev, AFr.evS, AV.strip, AFr.get, reduceIte, Nat.reduceEqDiff, tk_38, Option.map_some, Option.map_none, AV.ofC]; exact hs2)); apply e_nil; apply t_append; decide; (simp only [go_sem, hwb]; rfl); (simp only [go_sem, hwb]; rfl); apply AApp_at el_38 (Ext.refl L1) (RowAt.nil 3 1 L1 L1) (l := []) (m := left.take bk) (g := intCells) rfl rfl tk_38 int_one (by simp; omega) (by simp; omega); intro a1 L2 c1 c2 c3; refine ⟨by (intro _; assumption), ?_⟩)
    (apply t_append; decide; (simp only [go_sem]; rfl); (simp only [go_sem]; rfl); apply AApp_at el_38 c2 c1 (l := [] ++ left.take bk) (m := left.drop (bk + 1)) (g := intCells) rfl rfl tk_38 int_one (by simp; omega) (by simp; omega); intro a2 L3 d1 d2 d3; refine ⟨by (intro _; assumption), ?_⟩; apply t_q; decide; (simp only [go_sem]; rfl); (intro _; assumption); apply t_nil; simp only [AThen, ABlock])
    rw [List.nil_append] at d1
    have her : left.take bk ++ left.drop (bk + 1) = left.eraseIdx bk := (List.eraseIdx_eq_take_drop_succ left bk).symm
    rw [her] at d1
    obtain ⟨L6, e1, e2⟩ := d1.toGr d2
    have hsub := List.eraseIdx_sublist (l := left) (k := bk)
    have hel : (left.eraseIdx bk).length + 1 = left.length := by rw [List.length_eraseIdx, if_pos hbl]; omega
    refine ⟨(left.eraseIdx bk, out ++ [x], a2, o2, L3, L6), by simp only; omega, ⟨.inr e2, e1 _ _ gq1, b2.trans e1, b1.ext e1, fun r h1 h2 => ?_, hlnd.sublist hsub, fun y hy => hlpo y (hsub.subset hy), by simp only [List.length_append, List.length_singleton]; omega⟩, ?_, by trivial⟩
    · simp only at h1 h2 ⊢
      obtain ⟨f1, f2⟩ := pick_sorted (ltB_irr p F) (ltB_tr p F) (ltB_asy p F) (fun a ha c hc' hne => ltB_tot p F (hlpo a ha).1 (hlpo c hc').1 hne) hlnd hx hmin h1 h2
      have := hOr (x :: r) f1 f2
      rwa [List.append_assoc, List.singleton_append]
    · simp only [getAll, List.map_cons, List.map_nil, AFr.get, reduceIte, Nat.reduceEqDiff]
end Go.Proofs.YtcpfgjfiacfmoaaGreatDoor

set_option linter.unusedSimpArgs false
set_option linter.unusedVariables false
set_option maxRecDepth 100000
namespace Go.Proofs.YtcpfgjfiacfmoaaGreatDoor
open Go Go.AL
attribute [local irreducible] AOps AWp SOps AE AT ACall AApp

open Classical in
noncomputable def byLA (p : Pa) (l : List Int) (power : Int) : List Int := if h : ∃ s, ByLine p l power s then h.choose else []
theorem byLA_eq {p : Pa} {l s : List Int} {power : Int} (h : ByLine p l power s) : s = byLA p l power := by
  have h2 : ∃ s, ByLine p l power s := ⟨s, h⟩
  have h3 : ByLine p l power (byLA p l power) := by rw [byLA, dif_pos h2]; exact h2.choose_spec
  rw [ByLine] at h h3
  split at h
  · rename_i hr
    rw [if_pos hr] at h3
    exact ordered_one h h3
  · rename_i hr
    rw [if_neg hr] at h3
    rw [h, h3]
theorem byLA_short {p : Pa} {l : List Int} {power : Int} (hev : p.events.length ≤ 25) : (byLA p l power).length ≤ 25 := by
  rw [byLA]
  split
  · rename_i h
    have := h.choose_spec
    generalize h.choose = s at this
    rw [ByLine] at this
    split at this
    · have h2 := this.2.length_eq
      have := setL_len p.events.length l
      omega
    · rw [this]; simp
  · simp
set_option maxHeartbeats 1000000 in
theorem law_byLine (p : Pa) (hw : p.Wide) (t : Bool) (l : List Int) (hl : l.length ≤ 4611686018427387904) (power : Int) (H : AHeap) (K : AV → AHeap → Prop) (h : K (.v (.bool true)) H) : ACall X 9 [.agg p.cells, .sl t (l.map intCells), .v (.int .i64 power)] H K := by
  have hF : ∀ (H : AHeap) (K : AV → AHeap → Prop), (∀ b, (b = true → p.Few) → K (.v (.bool b)) H) → ACall X 15 [.agg (pCells p)] H K := fun H K hk => few12_c p hw H K hk
  refine ACall.drop ?_
  rw [show p.cells = pCells p from rfl]
  refine ACall_intro Tryz.func9 rfl (by kernel_rfl) (by rw [Tryz.ntmps9]; simp) ?_; rw [Tryz.ntmps9]; simp only [frame0, Nat.reduceAdd]
  refine AWp_seq_k (fun K hK => ?_); apply s_region
  apply s_box; decide; exact (by simp only [go_sem]; try rfl); exact (by simp only [go_sem]; try rfl); intro q hq
  generalize hgenq : AHeap.put q _ H = M; obtain ⟨g1, hextq⟩ := gen_ex hgenq hq; have hE := hextq; clear hextq hgenq
  (apply s_q; decide; rfl; (simp only [go_sem, g1]; rfl); apply s_nil; simp only [AThen, ABlock]; refine hK _ _ ?_; clear hK K; (iterate 2 (refine AWp_seq_k (fun K hK => ?_))); apply s_region; apply s_q; decide; rfl; (simp only [go_sem, g1]; rfl); apply s_call; decide; (simp only [go_sem, g1]; rfl); (simp only [go_sem, g1]; rfl); apply hF; intro b hb; (iterate 2 (apply s_q; decide; rfl; (simp only [go_sem, g1]; rfl))); apply s_spec; decide; rfl; rfl; (simp only [go_sem, g1]; rfl); (simp only [go_sem, g1]; rfl); (simp only [go_sem, g1]; rfl); (simp only [go_sem, g1]; rfl); trivial; (iterate 2 (apply s_spec; decide; rfl; rfl; (simp only [go_sem, g1]; rfl); (simp only [go_sem, g1]; rfl); (simp only [go_sem, g1]; rfl); (simp only [go_sem, g1]; rfl); simp [condsOk])); apply s_pick; decide; (simp only [go_sem, g1]; rfl); (simp only [go_sem, g1]; rfl); (simp only [go_sem, g1]; rfl); (simp only [go_sem, g1]; rfl); (simp only [go_sem, g1]; rfl); (simp only [go_sem, g1]; rfl); trivial; trivial; simp [condsOk]; apply s_nil; simp only [AThen, ABlock]; refine hK _ _ ?_; clear hK K)
  refine cond_split (by simp only [go_sem]; try rfl) (fun hc => ?_) (fun hc => ?_)
  · (refine AWp_seq_k (fun K hK => ?_); apply s_region; apply s_q; decide; rfl; (simp only [go_sem]; rfl); apply s_nil; simp only [AThen, ABlock]; refine hK _ _ ?_; clear hK K; apply AWp_ret; simp only [AThen, ABlock]; apply end_ret; rfl; simp only [AFr.get, reduceIte, Nat.reduceEqDiff])
    exact ⟨H, hE, h⟩
  have hfl : p.Few ∧ l.length ≤ 50 := by cases b <;> simp at hc hb <;> exact ⟨hb, by omega⟩
  obtain ⟨hf, hl50⟩ := hfl
  have hev := hf.ev
  have h1 : ∀ (H : AHeap) (K : AV → AHeap → Prop), K (.sl false ((byLA p l power).map intCells)) H → ACall X 30 [.agg (pCells p), .sl t (l.map intCells), .v (.int .i64 power)] H K := fun H K hk => byLine_c p hw (by omega) t l (by omega) power H K (fun s hs => by rw [byLA_eq hs]; exact hk)
  have h2 : ∀ (H : AHeap) (K : AV → AHeap → Prop), K (.sl false ((byLA p l power).map intCells)) H → ACall X 31 [.agg (pCells p), .sl t (l.map intCells), .v (.int .i64 power)] H K := fun H K hk => rbyLine_c p hw (by omega) t l (by omega) power H K (fun s hs => by rw [byLA_eq hs]; exact hk)
  have hpl : (byLA p l power).length ≤ 25 := byLA_short hev
  have hS : ∀ (H : AHeap) (K : AV → AHeap → Prop), K (.v (.bool true)) H → ACall X 18 [.sl false ((byLA p l power).map intCells), .sl false ((byLA p l power).map intCells)] H K := fun H K hk => same12_c false false _ _ (by omega) H K (by simpa using hk)
  (apply AWp_skip; simp only [AThen, ABlock]; refine hK _ _ ?_; clear hK K; refine AWp_seq_k (fun K hK => ?_))
  apply AWp_drawA [0, 1, 2, 3, 4, 5, 6, 7, 8, 9, 10, 11, 12] [] 0 (by exact mixed); kernel_rfl; (simp only [go_sem]; rfl); (simp only [go_sem]; rfl)
  ((iterate 3 (apply e_q; decide; (simp only [go_sem, g1]; rfl))); apply e_call; decide; (simp only [go_sem, g1]; rfl); (simp only [go_sem, g1]; rfl); (apply h1; exact ⟨rfl, rfl⟩); (iterate 3 (apply e_q; decide; (simp only [go_sem, g1]; rfl))); apply e_call; decide; (simp only [go_sem, g1]; rfl); (simp only [go_sem, g1]; rfl); (apply h2; exact ⟨rfl, rfl⟩); apply e_call; decide; (simp only [go_sem, g1]; rfl); (simp only [go_sem, g1]; rfl); (apply hS; exact ⟨rfl, rfl⟩); apply e_q; decide; (simp only [go_sem, g1]; rfl); apply e_gpure; decide; (simp only [go_sem, g1]; rfl); (simp only [go_sem, g1]; rfl); (simp only [go_sem, g1]; rfl); trivial; (simp only [go_sem, g1]; rfl); (simp only [go_sem, g1]; rfl); (apply awake_c; exact ⟨rfl, rfl⟩); apply e_pick; decide; (simp only [go_sem, g1]; rfl); (simp only [go_sem, g1]; rfl); (simp only [go_sem, g1]; rfl); (simp only [go_sem, g1]; rfl); (simp only [go_sem, g1]; rfl); (simp only [go_sem, g1]; rfl); trivial; trivial; trivial; apply e_q; decide; (simp only [go_sem, g1]; rfl); apply e_nil; apply t_nil; simp only [AThen, ABlock]; refine hK _ _ ?_; clear hK K; apply AWp_ret)
  exact ⟨H, hE, h⟩
end Go.Proofs.YtcpfgjfiacfmoaaGreatDoor
