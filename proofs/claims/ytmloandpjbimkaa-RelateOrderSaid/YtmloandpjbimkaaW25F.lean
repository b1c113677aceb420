/-
  relate.Body, relate.Thread. Contracts.
-/
import Derived.Test.YtmloandpjbimkaaW25E
set_option linter.unusedSimpArgs false
set_option linter.unusedVariables false
set_option maxRecDepth 100000
namespace Go.Proofs.Ytmloandpjbimkaa
open Go Go.AL
attribute [local irreducible] AOps AWp SOps AE AT ACall AApp

def kBody : List UInt8 := [98, 111, 100, 121]
def kNew : List UInt8 := [109, 46, 110, 101, 119, 95, 99, 111, 110, 116, 101, 110, 116]
/-- the edits of an event that count -/
def editsL (l : List Kn) (name : List UInt8) (e : Ev) : List Kn := (if (relOf e).1 = kEdit then [] else aboutL l kEdit name).filter fun k => !otherB e k.ev
def bodyL (l : List Kn) (name : List UInt8) : List UInt8 × Int :=
  match l.find? (fun k => decide (k.name = name)) with
  | none => ([], 0)
  | some k => match newestL (editsL l name k.ev) with
    | none => (txtJ k.ev.content kBody, 0)
    | some b => (txtJ (undJ b.ev.content kNew) kBody, (editsL l name k.ev).length)
theorem firstI_find {α : Type} {p : α → Bool} {l : List α} : (firstI p l < 0 ∧ l.find? p = none) ∨ ∃ (i : Nat) (a : α), firstI p l = i ∧ l[i]? = some a ∧ l.find? p = some a := by
  unfold firstI
  cases hf : l.findIdx? p with
  | none =>
    left
    refine ⟨by simp, ?_⟩
    rw [List.findIdx?_eq_none_iff] at hf
    rw [List.find?_eq_none]; intro x hx; simp [hf x hx]
  | some i =>
    right
    rw [List.findIdx?_eq_some_iff_getElem] at hf
    obtain ⟨h1, h2, h3⟩ := hf
    refine ⟨i, l[i], rfl, List.getElem?_eq_getElem h1, ?_⟩
    rw [List.find?_eq_some_iff_getElem]
    exact ⟨h2, i, h1, rfl, fun j hj => by simpa using h3 j hj⟩
theorem about_sub {l : List Kn} {kind name : List UInt8} {x : Kn} (h : x ∈ aboutL l kind name) : x ∈ l := firstL_sub l (List.mem_filter.1 h).1
theorem about_nodup (l : List Kn) (kind name : List UInt8) : ((aboutL l kind name).map (·.name)).Nodup := List.Nodup.sublist (List.filter_sublist.map _) (firstL_nodup l)
theorem edits_nodup (l : List Kn) (name : List UInt8) (e : Ev) : ((editsL l name e).map (·.name)).Nodup := by
  unfold editsL
  refine List.Nodup.sublist (List.filter_sublist.map _) ?_
  split
  · exact .nil
  · exact about_nodup _ _ _
theorem edits_sub {l : List Kn} {name : List UInt8} {e : Ev} {x : Kn} (h : x ∈ editsL l name e) : x ∈ l := by
  have := (List.mem_filter.1 h).1
  split at this
  · cases this
  · exact about_sub this
theorem newest_nil {l : List Kn} (h : l ≠ []) : ∃ b, newestL l = some b ∧ b ∈ l := by
  have := newest_ok l
  cases hq : newestL l with
  | none => exact absurd (this.1.1 hq) h
  | some b => exact ⟨b, rfl, (this.2 b hq).1⟩
set_option maxHeartbeats 4000000 in
theorem body_c (t : Bool) (l : List Kn) (name : List UInt8) (hl : l.length ≤ 1000000) (hok : ∀ k ∈ l, k.Ok) (H : AHeap) (K : AV → AHeap → Prop) (h : K (.tup [.s (bodyL l name).1, .v (.int .i64 (bodyL l name).2)]) H) : ACall X 14 [.sl t (l.map Kn.cells), .s name] H K := by
  refine ACall.drop ?_
  refine ACall_intro Try.func14 rfl (by kernel_rfl) (by rw [Try.ntmps14]; simp) ?_; rw [Try.ntmps14]; simp only [frame0, Nat.reduceAdd]
  refine AWp_seq_k (fun K hK => ?_); apply s_region
  apply s_box; decide; exact (by simp only [go_sem]; try rfl); exact (by simp only [go_sem]; try rfl); intro p hp
  (repeat' (first | (refine AWp_seq_k (fun K hK => ?_)) | (apply s_region) | (apply s_q; (first | decide | (dsimp only; decide)); rfl; (solve | (simp only [go_sem]; try rfl))) | (apply s_nil; try (simp only [AThen, ABlock]; try (first | (refine hK _ _ ?_; clear hK K) | (clear hK K; refine hK _ _ ?_; clear hK K) | (clear hK K; clear hK K; refine hK _ _ ?_; clear hK K)))) | (apply AWp_skip; try (simp only [AThen, ABlock]; try (first | (refine hK _ _ ?_; clear hK K) | (clear hK K; refine hK _ _ ?_; clear hK K) | (clear hK K; clear hK K; refine hK _ _ ?_; clear hK K)))) | (apply AWp_ret; try (simp only [AThen, ABlock]; apply end_ret; rfl; try simp only [AFr.get, reduceIte, Nat.reduceEqDiff])) | (apply s_store; (solve | (simp only [go_sem]; try rfl)); (solve | (simp only [go_sem]; try rfl)); (solve | (simp only [go_sem]; try rfl))) | (apply s_box; (first | decide | (dsimp only; decide)); (solve | (simp only [go_sem]; try rfl)); (solve | (simp only [go_sem]; try rfl)); intro b hb) | (apply s_alloc; (first | decide | (dsimp only; decide)); exact zc_28; intro b hb)))
  generalize hgenq : AHeap.put p _ H = M; obtain ⟨g1, hextq⟩ := gen_ex hgenq hp; have hE := hextq; clear hextq hgenq
  rcases firstI_find (p := fun k : Kn => decide (k.name = name)) (l := l) with ⟨hlt, hfd⟩ | ⟨i, k, hi, hm, hfd⟩
  · have hbl : bodyL l name = ([], 0) := by unfold bodyL; rw [hfd]
    rw [hbl] at h
    (repeat' (first | (refine AWp_seq_k (fun K hK => ?_)) | (apply s_region) | (apply s_q; (first | decide | (dsimp only; decide)); rfl; (solve | (simp only [go_sem, g1]; try rfl))) | (apply s_nil; try (simp only [AThen, ABlock]; try (first | (refine hK _ _ ?_; clear hK K) | (clear hK K; refine hK _ _ ?_; clear hK K) | (clear hK K; clear hK K; refine hK _ _ ?_; clear hK K)))) | (apply AWp_skip; try (simp only [AThen, ABlock]; try (first | (refine hK _ _ ?_; clear hK K) | (clear hK K; refine hK _ _ ?_; clear hK K) | (clear hK K; clear hK K; refine hK _ _ ?_; clear hK K)))) | (apply AWp_ret; try (simp only [AThen, ABlock]; apply end_ret; rfl; try simp only [AFr.get, reduceIte, Nat.reduceEqDiff])) | (apply s_store; (solve | (simp only [go_sem, g1]; try rfl)); (solve | (simp only [go_sem, g1]; try rfl)); (solve | (simp only [go_sem, g1]; try rfl))) | (apply s_box; (first | decide | (dsimp only; decide)); (solve | (simp only [go_sem, g1]; try rfl)); (solve | (simp only [go_sem, g1]; try rfl)); intro b hb) | (apply s_alloc; (first | decide | (dsimp only; decide)); exact zc_28; intro b hb) | (apply s_call; (first | decide | (dsimp only; decide)); (solve | (simp only [go_sem, g1]; try rfl)); (solve | (simp only [go_sem, g1]; try rfl)); apply kfirst_c t l name hl p M g1)))
    refine cond_split (by simp only [go_sem]; try rfl) (fun hc => ?_) (fun hc => ?_)
    · (repeat' (first | (refine AWp_seq_k (fun K hK => ?_)) | (apply s_region) | (apply s_q; (first | decide | (dsimp only; decide)); rfl; (solve | (simp only [go_sem]; try rfl))) | (apply s_nil; try (simp only [AThen, ABlock]; try (first | (refine hK _ _ ?_; clear hK K) | (clear hK K; refine hK _ _ ?_; clear hK K) | (clear hK K; clear hK K; refine hK _ _ ?_; clear hK K)))) | (apply AWp_skip; try (simp only [AThen, ABlock]; try (first | (refine hK _ _ ?_; clear hK K) | (clear hK K; refine hK _ _ ?_; clear hK K) | (clear hK K; clear hK K; refine hK _ _ ?_; clear hK K)))) | (apply AWp_ret; try (simp only [AThen, ABlock]; apply end_ret; rfl; try simp only [AFr.get, reduceIte, Nat.reduceEqDiff])) | (apply s_store; (solve | (simp only [go_sem]; try rfl)); (solve | (simp only [go_sem]; try rfl)); (solve | (simp only [go_sem]; try rfl))) | (apply s_box; (first | decide | (dsimp only; decide)); (solve | (simp only [go_sem]; try rfl)); (solve | (simp only [go_sem]; try rfl)); intro b hb) | (apply s_alloc; (first | decide | (dsimp only; decide)); exact zc_28; intro b hb)))
      exact ⟨H, hE, h⟩
    · simp at hc; omega
  have hg := kn_at hm
  have hkl : k.ev.content.Len := hok k (List.mem_of_getElem? hm)
  have hbl : bodyL l name = match newestL (editsL l name k.ev) with | none => (txtJ k.ev.content kBody, 0) | some b => (txtJ (undJ b.ev.content kNew) kBody, ((editsL l name k.ev).length : Int)) := by unfold bodyL; rw [hfd]
  obtain ⟨r1, r2, r3, hr⟩ : ∃ r1 r2 r3, relOf k.ev = (r1, r2, r3) := ⟨_, _, _, rfl⟩
  have hOf : ∀ (H : AHeap) (K : AV → AHeap → Prop), K (.tup [.s r1, .s r2, .s r3]) H → ACall X 10 [.agg k.ev.cells] H K := fun H K hk => of_c25 k.ev hkl H K (by rw [hr]; exact hk)
  (repeat' (first | (refine AWp_seq_k (fun K hK => ?_)) | (apply s_region) | (apply s_q; (first | decide | (dsimp only; decide)); rfl; (solve | (simp only [go_sem, g1]; try rfl))) | (apply s_nil; try (simp only [AThen, ABlock]; try (first | (refine hK _ _ ?_; clear hK K) | (clear hK K; refine hK _ _ ?_; clear hK K) | (clear hK K; clear hK K; refine hK _ _ ?_; clear hK K)))) | (apply AWp_skip; try (simp only [AThen, ABlock]; try (first | (refine hK _ _ ?_; clear hK K) | (clear hK K; refine hK _ _ ?_; clear hK K) | (clear hK K; clear hK K; refine hK _ _ ?_; clear hK K)))) | (apply AWp_ret; try (simp only [AThen, ABlock]; apply end_ret; rfl; try simp only [AFr.get, reduceIte, Nat.reduceEqDiff])) | (apply s_store; (solve | (simp only [go_sem, g1]; try rfl)); (solve | (simp only [go_sem, g1]; try rfl)); (solve | (simp only [go_sem, g1]; try rfl))) | (apply s_box; (first | decide | (dsimp only; decide)); (solve | (simp only [go_sem, g1]; try rfl)); (solve | (simp only [go_sem, g1]; try rfl)); intro b hb) | (apply s_alloc; (first | decide | (dsimp only; decide)); exact zc_28; intro b hb) | (apply s_call; (first | decide | (dsimp only; decide)); (solve | (simp only [go_sem, g1]; try rfl)); (solve | (simp only [go_sem, g1]; try rfl)); apply kfirst_c t l name hl p M g1)))
  refine cond_split (by simp only [go_sem]; try rfl) (fun hc => ?_) (fun hc => ?_)
  · simp [hi] at hc; omega
  rw [hi]
  (repeat' (first | (refine AWp_seq_k (fun K hK => ?_)) | (apply s_region) | (apply s_q; (first | decide | (dsimp only; decide)); rfl; (solve | (simp only [go_sem, hg]; try rfl))) | (apply s_nil; try (simp only [AThen, ABlock]; try (first | (refine hK _ _ ?_; clear hK K) | (clear hK K; refine hK _ _ ?_; clear hK K) | (clear hK K; clear hK K; refine hK _ _ ?_; clear hK K)))) | (apply AWp_skip; try (simp only [AThen, ABlock]; try (first | (refine hK _ _ ?_; clear hK K) | (clear hK K; refine hK _ _ ?_; clear hK K) | (clear hK K; clear hK K; refine hK _ _ ?_; clear hK K)))) | (apply AWp_ret; try (simp only [AThen, ABlock]; apply end_ret; rfl; try simp only [AFr.get, reduceIte, Nat.reduceEqDiff])) | (apply s_store; (solve | (simp only [go_sem, hg]; try rfl)); (solve | (simp only [go_sem, hg]; try rfl)); (solve | (simp only [go_sem, hg]; try rfl))) | (apply s_box; (first | decide | (dsimp only; decide)); (solve | (simp only [go_sem, hg]; try rfl)); (solve | (simp only [go_sem, hg]; try rfl)); intro b hb) | (apply s_alloc; (first | decide | (dsimp only; decide)); exact zc_28; intro b hb)))
  obtain ⟨p7, hnewq⟩ : ∃ q, q = b := ⟨_, rfl⟩; have hp7 := hb; rw [← hnewq] at hp7 ⊢; clear hb hnewq; try clear he; clear b
  generalize hgenq : AHeap.put p7 _ M = M2; obtain ⟨g7, hextq⟩ := gen_ex hgenq hp7; have g1 := hextq _ _ g1; have hE := Ext.trans hE hextq; clear hextq hgenq
  (repeat' (first | (refine AWp_seq_k (fun K hK => ?_)) | (apply s_region) | (apply s_q; (first | decide | (dsimp only; decide)); rfl; (solve | (simp only [go_sem, g1]; try rfl))) | (apply s_nil; try (simp only [AThen, ABlock]; try (first | (refine hK _ _ ?_; clear hK K) | (clear hK K; refine hK _ _ ?_; clear hK K) | (clear hK K; clear hK K; refine hK _ _ ?_; clear hK K)))) | (apply AWp_skip; try (simp only [AThen, ABlock]; try (first | (refine hK _ _ ?_; clear hK K) | (clear hK K; refine hK _ _ ?_; clear hK K) | (clear hK K; clear hK K; refine hK _ _ ?_; clear hK K)))) | (apply AWp_ret; try (simp only [AThen, ABlock]; apply end_ret; rfl; try simp only [AFr.get, reduceIte, Nat.reduceEqDiff])) | (apply s_store; (solve | (simp only [go_sem, g1]; try rfl)); (solve | (simp only [go_sem, g1]; try rfl)); (solve | (simp only [go_sem, g1]; try rfl))) | (apply s_box; (first | decide | (dsimp only; decide)); (solve | (simp only [go_sem, g1]; try rfl)); (solve | (simp only [go_sem, g1]; try rfl)); intro b hb) | (apply s_alloc; (first | decide | (dsimp only; decide)); exact zc_28; intro b hb) | (apply s_call; (first | decide | (dsimp only; decide)); (solve | (simp only [go_sem, g1]; try rfl)); (solve | (simp only [go_sem, g1]; try rfl)); apply about_c t l kEdit name hl hok; intro q hq)))
  have hHq : H.get q = none := none_of_ext hE hq
  have hqp : p7 ≠ q := by rintro rfl; rw [g7] at hq; cases hq
  generalize hgenq : AHeap.put q _ M2 = M3; obtain ⟨gq, hextq⟩ := gen_ex hgenq hq; have g1 := hextq _ _ g1; have g7 := hextq _ _ g7; have hE := Ext.trans hE hextq; clear hextq hgenq
  (repeat' (first | (refine AWp_seq_k (fun K hK => ?_)) | (apply s_region) | (apply s_q; (first | decide | (dsimp only; decide)); rfl; (solve | (simp only [go_sem, g7]; try rfl))) | (apply s_nil; try (simp only [AThen, ABlock]; try (first | (refine hK _ _ ?_; clear hK K) | (clear hK K; refine hK _ _ ?_; clear hK K) | (clear hK K; clear hK K; refine hK _ _ ?_; clear hK K)))) | (apply AWp_skip; try (simp only [AThen, ABlock]; try (first | (refine hK _ _ ?_; clear hK K) | (clear hK K; refine hK _ _ ?_; clear hK K) | (clear hK K; clear hK K; refine hK _ _ ?_; clear hK K)))) | (apply AWp_ret; try (simp only [AThen, ABlock]; apply end_ret; rfl; try simp only [AFr.get, reduceIte, Nat.reduceEqDiff])) | (apply s_store; (solve | (simp only [go_sem, g7]; try rfl)); (solve | (simp only [go_sem, g7]; try rfl)); (solve | (simp only [go_sem, g7]; try rfl))) | (apply s_box; (first | decide | (dsimp only; decide)); (solve | (simp only [go_sem, g7]; try rfl)); (solve | (simp only [go_sem, g7]; try rfl)); intro b hb) | (apply s_alloc; (first | decide | (dsimp only; decide)); exact zc_28; intro b hb) | (apply s_call; (first | decide | (dsimp only; decide)); (solve | (simp only [go_sem, g7]; try rfl)); (solve | (simp only [go_sem, g7]; try rfl)); apply hOf)))
  have hrest : ∀ (fr' : AFr) (M4 : AHeap) (es : List Kn), getAll [7, 8] fr' = [ptrTo p7, .v (.map (some q))] → M4.get q = some (.smap (kEnts es)) → M4.get p7 = some (.box 28 k.ev.cells) → Ext H M4 → es = (if r1 = kEdit then [] else aboutL l kEdit name) → K fr' M4 := by
    intro fr' M4 es hfr m1 m2 hE4 hes
    refine hK _ _ (AWp_cut _ hfr ?_)
    clear hK
    simp only [List.zip_cons_cons, List.zip_nil_right]
    have hnd : (es.map (·.name)).Nodup := by
      rw [hes]; split
      · exact .nil
      · exact about_nodup _ _ _
    have hed : es.filter (fun x => !otherB k.ev x.ev) = editsL l name k.ev := by rw [editsL, hr, hes]
    (repeat' (first | (refine AWp_seq_k (fun K hK => ?_)) | (apply s_region) | (apply s_q; (first | decide | (dsimp only; decide)); rfl; (solve | (simp only [go_sem]; try rfl))) | (apply s_nil; try (simp only [AThen, ABlock]; try (first | (refine hK _ _ ?_; clear hK K) | (clear hK K; refine hK _ _ ?_; clear hK K) | (clear hK K; clear hK K; refine hK _ _ ?_; clear hK K)))) | (apply AWp_skip; try (simp only [AThen, ABlock]; try (first | (refine hK _ _ ?_; clear hK K) | (clear hK K; refine hK _ _ ?_; clear hK K) | (clear hK K; clear hK K; refine hK _ _ ?_; clear hK K)))) | (apply AWp_ret; try (simp only [AThen, ABlock]; apply end_ret; rfl; try simp only [AFr.get, reduceIte, Nat.reduceEqDiff])) | (apply s_store; (solve | (simp only [go_sem]; try rfl)); (solve | (simp only [go_sem]; try rfl)); (solve | (simp only [go_sem]; try rfl))) | (apply s_box; (first | decide | (dsimp only; decide)); (solve | (simp only [go_sem]; try rfl)); (solve | (simp only [go_sem]; try rfl)); intro b hb) | (apply s_alloc; (first | decide | (dsimp only; decide)); exact zc_28; intro b hb) | (apply s_call; (first | decide | (dsimp only; decide)); (solve | (simp only [go_sem]; try rfl)); (solve | (simp only [go_sem]; try rfl)); apply delete_c q p7 k.ev es hnd M4 m1 m2)))
    rw [hed]
    have gd := AHeap.get_put_same q (.smap (kEnts (editsL l name k.ev))) M4
    have gp := get_other (x := .smap (kEnts (editsL l name k.ev))) m2 hqp
    have hE5 := Ext.over (o := .smap (kEnts (editsL l name k.ev))) hE4 hHq
    have hel : (kEnts (editsL l name k.ev)).length = (editsL l name k.ev).length := by simp [kEnts]
    rw [hel]
    generalize AHeap.put q (.smap (kEnts (editsL l name k.ev))) M4 = M5 at gd gp hE5 ⊢
    refine cond_split (by simp only [go_sem]; try rfl) (fun he => ?_) (fun he => ?_)
    · have hnil : editsL l name k.ev = [] := by simpa using he
      have h1 : bodyL l name = (txtJ k.ev.content kBody, 0) := by rw [hbl, hnil]; rfl
      rw [h1] at h
      rw [Ev.cells] at gp
      have hT : ∀ (H : AHeap) (K : AV → AHeap → Prop), K (.s (txtJ k.ev.content kBody)) H → ACall X 25 [.agg [.v (.int .i64 k.ev.content.kind), .v (.int .i64 k.ev.content.int), .s k.ev.content.text, .sl false (k.ev.content.keys.map strCells), .sl false (k.ev.content.list.map J.cells)], .s kBody] H K := fun H K hk => by
        have := text_c k.ev.content kBody ⟨(J.len_eq.1 hkl).1, (J.len_eq.1 hkl).2.1⟩ H K hk
        rwa [J.cells_eq] at this
      (repeat' (first | (refine AWp_seq_k (fun K hK => ?_)) | (apply s_region) | (apply s_q; (first | decide | (dsimp only; decide)); rfl; (solve | (simp only [go_sem, gp]; try rfl))) | (apply s_nil; try (simp only [AThen, ABlock]; try (first | (refine hK _ _ ?_; clear hK K) | (clear hK K; refine hK _ _ ?_; clear hK K) | (clear hK K; clear hK K; refine hK _ _ ?_; clear hK K)))) | (apply AWp_skip; try (simp only [AThen, ABlock]; try (first | (refine hK _ _ ?_; clear hK K) | (clear hK K; refine hK _ _ ?_; clear hK K) | (clear hK K; clear hK K; refine hK _ _ ?_; clear hK K)))) | (apply AWp_ret; try (simp only [AThen, ABlock]; apply end_ret; rfl; try simp only [AFr.get, reduceIte, Nat.reduceEqDiff])) | (apply s_store; (solve | (simp only [go_sem, gp]; try rfl)); (solve | (simp only [go_sem, gp]; try rfl)); (solve | (simp only [go_sem, gp]; try rfl))) | (apply s_box; (first | decide | (dsimp only; decide)); (solve | (simp only [go_sem, gp]; try rfl)); (solve | (simp only [go_sem, gp]; try rfl)); intro b hb) | (apply s_alloc; (first | decide | (dsimp only; decide)); exact zc_28; intro b hb) | (apply s_call; (first | decide | (dsimp only; decide)); (solve | (simp only [go_sem, gp]; try rfl)); (solve | (simp only [go_sem, gp]; try rfl)); apply hT)))
      exact ⟨H, hE5, h⟩
    · have hnn : editsL l name k.ev ≠ [] := by
        intro e; rw [e] at he; simp at he
      obtain ⟨b, hb, hbm⟩ := newest_nil hnn
      have hbl2 : b.ev.content.Len := hok b (edits_sub hbm)
      have h1 : bodyL l name = (txtJ (undJ b.ev.content kNew) kBody, ((editsL l name k.ev).length : Int)) := by rw [hbl, hb]
      rw [h1] at h
      obtain ⟨u, hu⟩ : ∃ u, undJ b.ev.content kNew = u := ⟨_, rfl⟩
      rw [hu] at h
      have hul := J.len_eq.1 (show u.Len from hu ▸ und_len hbl2 kNew)
      have hN : ∀ K : AV → AHeap → Prop, K (.agg b.cells) M5 → ACall X 36 [.v (.map (some q))] M5 K := fun K hk => newest_c q _ (edits_nodup l name k.ev) M5 gd K (by rw [hb]; exact hk)
      have hU : ∀ (H : AHeap) (K : AV → AHeap → Prop), K (.agg [.v (.int .i64 u.kind), .v (.int .i64 u.int), .s u.text, .sl false (u.keys.map strCells), .sl false (u.list.map J.cells)]) H → ACall X 24 [.agg [.v (.int .i64 b.ev.content.kind), .v (.int .i64 b.ev.content.int), .s b.ev.content.text, .sl false (b.ev.content.keys.map strCells), .sl false (b.ev.content.list.map J.cells)], .s kNew] H K := fun H K hk => by
        have := under_c b.ev.content kNew ⟨(J.len_eq.1 hbl2).1, (J.len_eq.1 hbl2).2.1⟩ H K (by rw [hu, J.cells_eq]; exact hk)
        rwa [J.cells_eq] at this
      have hT : ∀ (H : AHeap) (K : AV → AHeap → Prop), K (.s (txtJ u kBody)) H → ACall X 25 [.agg [.v (.int .i64 u.kind), .v (.int .i64 u.int), .s u.text, .sl false (u.keys.map strCells), .sl false (u.list.map J.cells)], .s kBody] H K := fun H K hk => by
        have := text_c u kBody ⟨hul.1, hul.2.1⟩ H K hk
        rwa [J.cells_eq] at this
      rw [Kn.cells] at hN
      (repeat' (first | (refine AWp_seq_k (fun K hK => ?_)) | (apply s_region) | (apply s_q; (first | decide | (dsimp only; decide)); rfl; (solve | (simp only [go_sem, gd, hel]; try rfl))) | (apply s_nil; try (simp only [AThen, ABlock]; try (first | (refine hK _ _ ?_; clear hK K) | (clear hK K; refine hK _ _ ?_; clear hK K) | (clear hK K; clear hK K; refine hK _ _ ?_; clear hK K)))) | (apply AWp_skip; try (simp only [AThen, ABlock]; try (first | (refine hK _ _ ?_; clear hK K) | (clear hK K; refine hK _ _ ?_; clear hK K) | (clear hK K; clear hK K; refine hK _ _ ?_; clear hK K)))) | (apply AWp_ret; try (simp only [AThen, ABlock]; apply end_ret; rfl; try simp only [AFr.get, reduceIte, Nat.reduceEqDiff])) | (apply s_store; (solve | (simp only [go_sem, gd, hel]; try rfl)); (solve | (simp only [go_sem, gd, hel]; try rfl)); (solve | (simp only [go_sem, gd, hel]; try rfl))) | (apply s_box; (first | decide | (dsimp only; decide)); (solve | (simp only [go_sem, gd, hel]; try rfl)); (solve | (simp only [go_sem, gd, hel]; try rfl)); intro b hb) | (apply s_alloc; (first | decide | (dsimp only; decide)); exact zc_28; intro b hb) | (apply s_call; (first | decide | (dsimp only; decide)); (solve | (simp only [go_sem, gd, hel]; try rfl)); (solve | (simp only [go_sem, gd, hel]; try rfl)); apply hN) | (apply s_call; (first | decide | (dsimp only; decide)); (solve | (simp only [go_sem, gd, hel]; try rfl)); (solve | (simp only [go_sem, gd, hel]; try rfl)); apply hU) | (apply s_call; (first | decide | (dsimp only; decide)); (solve | (simp only [go_sem, gd, hel]; try rfl)); (solve | (simp only [go_sem, gd, hel]; try rfl)); apply hT)))
      exact ⟨H, hE5, h⟩
  clear hK
  refine cond_split (by simp only [go_sem]; try rfl) (fun hd => ?_) (fun hd => ?_)
  · (repeat' (first | (refine AWp_seq_k (fun K hK => ?_)) | (apply s_region) | (apply s_q; (first | decide | (dsimp only; decide)); rfl; (solve | (simp only [go_sem]; try rfl))) | (apply s_nil; try (simp only [AThen, ABlock]; try (first | (refine hK _ _ ?_; clear hK K) | (clear hK K; refine hK _ _ ?_; clear hK K) | (clear hK K; clear hK K; refine hK _ _ ?_; clear hK K)))) | (apply AWp_skip; try (simp only [AThen, ABlock]; try (first | (refine hK _ _ ?_; clear hK K) | (clear hK K; refine hK _ _ ?_; clear hK K) | (clear hK K; clear hK K; refine hK _ _ ?_; clear hK K)))) | (apply AWp_ret; try (simp only [AThen, ABlock]; apply end_ret; rfl; try simp only [AFr.get, reduceIte, Nat.reduceEqDiff])) | (apply s_store; (solve | (simp only [go_sem]; try rfl)); (solve | (simp only [go_sem]; try rfl)); (solve | (simp only [go_sem]; try rfl))) | (apply s_box; (first | decide | (dsimp only; decide)); (solve | (simp only [go_sem]; try rfl)); (solve | (simp only [go_sem]; try rfl)); intro b hb) | (apply s_alloc; (first | decide | (dsimp only; decide)); exact zc_28; intro b hb)))
    apply s_clear; exact (by simp only [go_sem]; try rfl); exact gq; exact ⟨_, Try.underlying62⟩
    (repeat' (first | (refine AWp_seq_k (fun K hK => ?_)) | (apply s_region) | (apply s_q; (first | decide | (dsimp only; decide)); rfl; (solve | (simp only [go_sem]; try rfl))) | (apply s_nil; try (simp only [AThen, ABlock]; try (first | (refine hK _ _ ?_; clear hK K) | (clear hK K; refine hK _ _ ?_; clear hK K) | (clear hK K; clear hK K; refine hK _ _ ?_; clear hK K)))) | (apply AWp_skip; try (simp only [AThen, ABlock]; try (first | (refine hK _ _ ?_; clear hK K) | (clear hK K; refine hK _ _ ?_; clear hK K) | (clear hK K; clear hK K; refine hK _ _ ?_; clear hK K)))) | (apply AWp_ret; try (simp only [AThen, ABlock]; apply end_ret; rfl; try simp only [AFr.get, reduceIte, Nat.reduceEqDiff])) | (apply s_store; (solve | (simp only [go_sem]; try rfl)); (solve | (simp only [go_sem]; try rfl)); (solve | (simp only [go_sem]; try rfl))) | (apply s_box; (first | decide | (dsimp only; decide)); (solve | (simp only [go_sem]; try rfl)); (solve | (simp only [go_sem]; try rfl)); intro b hb) | (apply s_alloc; (first | decide | (dsimp only; decide)); exact zc_28; intro b hb)))
    refine hrest _ _ [] rfl (AHeap.get_put_same _ _ _) (get_other g7 hqp) (Ext.over hE hHq) ?_
    exact (if_pos (show r1 = kEdit from of_decide_eq_true hd)).symm
  · (repeat' (first | (refine AWp_seq_k (fun K hK => ?_)) | (apply s_region) | (apply s_q; (first | decide | (dsimp only; decide)); rfl; (solve | (simp only [go_sem]; try rfl))) | (apply s_nil; try (simp only [AThen, ABlock]; try (first | (refine hK _ _ ?_; clear hK K) | (clear hK K; refine hK _ _ ?_; clear hK K) | (clear hK K; clear hK K; refine hK _ _ ?_; clear hK K)))) | (apply AWp_skip; try (simp only [AThen, ABlock]; try (first | (refine hK _ _ ?_; clear hK K) | (clear hK K; refine hK _ _ ?_; clear hK K) | (clear hK K; clear hK K; refine hK _ _ ?_; clear hK K)))) | (apply AWp_ret; try (simp only [AThen, ABlock]; apply end_ret; rfl; try simp only [AFr.get, reduceIte, Nat.reduceEqDiff])) | (apply s_store; (solve | (simp only [go_sem]; try rfl)); (solve | (simp only [go_sem]; try rfl)); (solve | (simp only [go_sem]; try rfl))) | (apply s_box; (first | decide | (dsimp only; decide)); (solve | (simp only [go_sem]; try rfl)); (solve | (simp only [go_sem]; try rfl)); intro b hb) | (apply s_alloc; (first | decide | (dsimp only; decide)); exact zc_28; intro b hb)))
    refine hrest _ _ _ rfl gq g7 hE ?_
    exact (if_neg (show ¬ r1 = kEdit from of_decide_eq_false hd)).symm
/-- how many answers, and the newest one's name -/
def threadL (l : List Kn) (name : List UInt8) : Int × List UInt8 := ((aboutL l kThread name).length, ((newestL (aboutL l kThread name)).getD kn0).name)
theorem thread_c (t : Bool) (l : List Kn) (name : List UInt8) (hl : l.length ≤ 1000000) (hok : ∀ k ∈ l, k.Ok) (H : AHeap) (K : AV → AHeap → Prop) (h : K (.agg [.v (.int .i64 (threadL l name).1), .s (threadL l name).2]) H) : ACall X 20 [.sl t (l.map Kn.cells), .s name] H K := by
  refine ACall.drop ?_
  refine ACall_intro Try.func20 rfl (by kernel_rfl) (by rw [Try.ntmps20]; simp) ?_; rw [Try.ntmps20]; simp only [frame0, Nat.reduceAdd]
  (repeat' (first | (refine AWp_seq_k (fun K hK => ?_)) | (apply s_region) | (apply s_q; (first | decide | (dsimp only; decide)); rfl; (solve | (simp only [go_sem]; try rfl))) | (apply s_nil; try (simp only [AThen, ABlock]; try (first | (refine hK _ _ ?_; clear hK K) | (clear hK K; refine hK _ _ ?_; clear hK K) | (clear hK K; clear hK K; refine hK _ _ ?_; clear hK K)))) | (apply AWp_ret; try (simp only [AThen, ABlock]; apply end_ret; rfl; try simp only [AFr.get, reduceIte, Nat.reduceEqDiff])) | (apply s_store; (solve | (simp only [go_sem]; try rfl)); (solve | (simp only [go_sem]; try rfl)); (solve | (simp only [go_sem]; try rfl))) | (apply s_alloc; (first | decide | (dsimp only; decide)); exact zc_45; intro b hb)))
  obtain ⟨p, hnewq⟩ : ∃ q, q = b := ⟨_, rfl⟩; have hp := hb; rw [← hnewq] at hp ⊢; clear hb hnewq; try clear he; clear b
  generalize hgenq : AHeap.put p _ H = M; obtain ⟨g1, hextq⟩ := gen_ex hgenq hp; have hE := hextq; clear hextq hgenq
  (repeat' (first | (refine AWp_seq_k (fun K hK => ?_)) | (apply s_region) | (apply s_q; (first | decide | (dsimp only; decide)); rfl; (solve | (simp only [go_sem, g1]; try rfl))) | (apply s_nil; try (simp only [AThen, ABlock]; try (first | (refine hK _ _ ?_; clear hK K) | (clear hK K; refine hK _ _ ?_; clear hK K) | (clear hK K; clear hK K; refine hK _ _ ?_; clear hK K)))) | (apply AWp_ret; try (simp only [AThen, ABlock]; apply end_ret; rfl; try simp only [AFr.get, reduceIte, Nat.reduceEqDiff])) | (apply s_store; (solve | (simp only [go_sem, g1]; try rfl)); (solve | (simp only [go_sem, g1]; try rfl)); (solve | (simp only [go_sem, g1]; try rfl))) | (apply s_alloc; (first | decide | (dsimp only; decide)); exact zc_45; intro b hb) | (apply s_call; (first | decide | (dsimp only; decide)); (solve | (simp only [go_sem, g1]; try rfl)); (solve | (simp only [go_sem, g1]; try rfl)); apply about_c t l kThread name hl hok; intro q hq)))
  have hHq : H.get q = none := none_of_ext hE hq
  have hHp : p ≠ q := by rintro rfl; rw [g1] at hq; cases hq
  generalize hgenq : AHeap.put q _ M = M2; obtain ⟨gq, hextq⟩ := gen_ex hgenq hq; have g1 := hextq _ _ g1; have hE := Ext.trans hE hextq; clear hextq hgenq
  have hel : (kEnts (aboutL l kThread name)).length = (aboutL l kThread name).length := by simp [kEnts]
  obtain ⟨b, hb⟩ : ∃ b, (newestL (aboutL l kThread name)).getD kn0 = b := ⟨_, rfl⟩
  have hN : ∀ K : AV → AHeap → Prop, K (.agg b.cells) M2 → ACall X 36 [.v (.map (some q))] M2 K := fun K hk => newest_c q _ (about_nodup l kThread name) M2 gq K (by rw [hb]; exact hk)
  rw [Kn.cells] at hN
  rw [threadL, hb] at h
  (repeat' (first | (refine AWp_seq_k (fun K hK => ?_)) | (apply s_region) | (apply s_q; (first | decide | (dsimp only; decide)); rfl; (solve | (simp only [go_sem, gq, hel, g1]; try rfl))) | (apply s_nil; try (simp only [AThen, ABlock]; try (first | (refine hK _ _ ?_; clear hK K) | (clear hK K; refine hK _ _ ?_; clear hK K) | (clear hK K; clear hK K; refine hK _ _ ?_; clear hK K)))) | (apply AWp_ret; try (simp only [AThen, ABlock]; apply end_ret; rfl; try simp only [AFr.get, reduceIte, Nat.reduceEqDiff])) | (apply s_store; (solve | (simp only [go_sem, gq, hel, g1]; try rfl)); (solve | (simp only [go_sem, gq, hel, g1]; try rfl)); (solve | (simp only [go_sem, gq, hel, g1]; try rfl))) | (apply s_alloc; (first | decide | (dsimp only; decide)); exact zc_45; intro b hb) | (apply s_call; (first | decide | (dsimp only; decide)); (solve | (simp only [go_sem, gq, hel, g1]; try rfl)); (solve | (simp only [go_sem, gq, hel, g1]; try rfl)); apply hN)))
  refine end_ret (av := .agg [.v (.int .i64 ((aboutL l kThread name).length : Int)), .s b.name]) (by show resAV X.P _ _ [.cell 4 45] = _; simp only [go_sem]; try rfl) ⟨H, Ext.over hE hp, h⟩
end Go.Proofs.Ytmloandpjbimkaa
