/-
  The document's board: contracts.
-/
import Derived.Test.YtpdfgmedbphmkaaO
import Derived.Test.YtpdfgmedbphmkaaQ
set_option linter.unusedSimpArgs false
set_option linter.unusedVariables false
set_option maxRecDepth 100000
namespace Go.Proofs.Ytpdfgmedbphmkaa
open Go Go.AL
attribute [local irreducible] AOps AWp SOps AE AT ACall AApp

def RB (H : AHeap) (p : Nat) (t : Bool) (L : List Mark) : Prop := H.get p = some (.box 45 [.sl t (L.map Mark.cells)])
/-- the first place of a user's mark -/
def place (u : List UInt8) : List Mark → Option Nat
  | [] => none
  | m :: L => if m.user = u then some 0 else (place u L).map (· + 1)
theorem place_some {u : List UInt8} : ∀ {L : List Mark} {i : Nat} {m : Mark}, (∀ x ∈ L.take i, x.user ≠ u) → L[i]? = some m → m.user = u → place u L = some i
  | [], i, m, _, h, _ => by cases h
  | x :: L, 0, m, _, h, e => by simp at h; subst h; simp [place, e]
  | x :: L, i + 1, m, h1, h2, e => by
    have hx : x.user ≠ u := h1 x (by simp)
    have ih := place_some (L := L) (i := i) (fun y hy => h1 y (by simp [hy])) (by simpa using h2) e
    simp [place, hx, ih]
theorem place_none {u : List UInt8} : ∀ {L : List Mark}, (∀ x ∈ L, x.user ≠ u) → place u L = none
  | [], _ => rfl
  | x :: L, h => by
    have hx : x.user ≠ u := h x (by simp)
    have ih := place_none (L := L) (fun y hy => h y (by simp [hy]))
    simp [place, hx, ih]
def placeI (u : List UInt8) (L : List Mark) : Int := match place u L with | some i => i | none => -1

theorem find_c (p : Nat) (t : Bool) (u : List UInt8) (L : List Mark) (hl : L.length ≤ 1000000) (H : AHeap) (hB : RB H p t L) (K : AV → AHeap → Prop) (h : K (.v (.int .i64 (placeI u L))) H) : ACall X 32 [.v (.pointer (some ⟨p, 0, none⟩)), .s u] H K := by
  unfold RB at hB
  refine ACall_intro Try.func32 rfl (by kernel_rfl) (by rw [Try.ntmps32]; simp) ?_; rw [Try.ntmps32]; simp only [frame0, Nat.reduceAdd]
  (repeat' (first | (refine AWp_seq_k (fun K hK => ?_)) | (apply s_region) | (apply s_q; decide; rfl; (solve | (simp only [go_sem]; try rfl))) | (apply s_nil; try simp only [AThen, ABlock]; try (first | (refine hK _ _ ?_; clear hK K) | (clear hK K; refine hK _ _ ?_; clear hK K) | (clear hK K; clear hK K; refine hK _ _ ?_; clear hK K))) | (apply AWp_block) | (apply AWp_skip; try simp only [AThen, ABlock]; try (first | (refine hK _ _ ?_; clear hK K) | (clear hK K; refine hK _ _ ?_; clear hK K) | (clear hK K; clear hK K; refine hK _ _ ?_; clear hK K))) | (apply AWp_exit; simp only [AThen, ABlock, reduceIte, Nat.reduceEqDiff]; try (first | (refine hK _ _ ?_; clear hK K) | (clear hK K; refine hK _ _ ?_; clear hK K) | (clear hK K; clear hK K; refine hK _ _ ?_; clear hK K))) | (apply AWp_ret; try simp only [AThen, ABlock]; apply end_ret; rfl; try simp only [AFr.get, reduceIte, Nat.reduceEqDiff])))
  refine AWp_loop_s (σ := Nat) [0, 1, 5] (fun i => [.v (.pointer (some ⟨p, 0, none⟩)), .s u, .v (.int .i64 i)]) (fun _ => H) (fun i => L.length - i) (fun i => i ≤ L.length ∧ ∀ x ∈ L.take i, x.user ≠ u) 0 ⟨Nat.zero_le _, by simp⟩ rfl rfl (fun i hi => ?_)
  simp only [List.zip_cons_cons, List.zip_nil_right]
  (repeat' (first | (refine AWp_seq_k (fun K hK => ?_)) | (apply s_region) | (apply s_q; decide; rfl; (solve | (simp only [go_sem, hB]; try rfl))) | (apply s_nil; try simp only [AThen, ABlock]; try (first | (refine hK _ _ ?_; clear hK K) | (clear hK K; refine hK _ _ ?_; clear hK K) | (clear hK K; clear hK K; refine hK _ _ ?_; clear hK K))) | (apply AWp_block) | (apply AWp_skip; try simp only [AThen, ABlock]; try (first | (refine hK _ _ ?_; clear hK K) | (clear hK K; refine hK _ _ ?_; clear hK K) | (clear hK K; clear hK K; refine hK _ _ ?_; clear hK K))) | (apply AWp_exit; simp only [AThen, ABlock, reduceIte, Nat.reduceEqDiff]; try (first | (refine hK _ _ ?_; clear hK K) | (clear hK K; refine hK _ _ ?_; clear hK K) | (clear hK K; clear hK K; refine hK _ _ ?_; clear hK K))) | (apply AWp_ret; try simp only [AThen, ABlock]; apply end_ret; rfl; try simp only [AFr.get, reduceIte, Nat.reduceEqDiff])))
  refine cond_split (by simp only [go_sem]; try rfl) (fun hc => ?_) (fun hc => ?_)
  · have hlt : i < L.length := by simpa using hc
    obtain ⟨m, hm⟩ : ∃ a, L[i]? = some a := ⟨_, List.getElem?_eq_getElem hlt⟩
    have hg : (L.map Mark.cells)[i]? = some [.s m.user, .v (.int .i64 m.at_), .v (.int .i64 m.ts)] := by rw [List.getElem?_map, hm]; rfl
    (repeat' (first | (refine AWp_seq_k (fun K hK => ?_)) | (apply s_region) | (apply s_q; decide; rfl; (solve | (simp only [go_sem, hB, hg]; try rfl))) | (apply s_nil; try simp only [AThen, ABlock]; try (first | (refine hK _ _ ?_; clear hK K) | (clear hK K; refine hK _ _ ?_; clear hK K) | (clear hK K; clear hK K; refine hK _ _ ?_; clear hK K))) | (apply AWp_block) | (apply AWp_skip; try simp only [AThen, ABlock]; try (first | (refine hK _ _ ?_; clear hK K) | (clear hK K; refine hK _ _ ?_; clear hK K) | (clear hK K; clear hK K; refine hK _ _ ?_; clear hK K))) | (apply AWp_exit; simp only [AThen, ABlock, reduceIte, Nat.reduceEqDiff]; try (first | (refine hK _ _ ?_; clear hK K) | (clear hK K; refine hK _ _ ?_; clear hK K) | (clear hK K; clear hK K; refine hK _ _ ?_; clear hK K))) | (apply AWp_ret; try simp only [AThen, ABlock]; apply end_ret; rfl; try simp only [AFr.get, reduceIte, Nat.reduceEqDiff])))
    refine cond_split (by simp only [go_sem]; try rfl) (fun hd => ?_) (fun hd => ?_)
    · (repeat' (first | (refine AWp_seq_k (fun K hK => ?_)) | (apply s_region) | (apply s_q; decide; rfl; (solve | (simp only [go_sem]; try rfl))) | (apply s_nil; try simp only [AThen, ABlock]; try (first | (refine hK _ _ ?_; clear hK K) | (clear hK K; refine hK _ _ ?_; clear hK K) | (clear hK K; clear hK K; refine hK _ _ ?_; clear hK K))) | (apply AWp_block) | (apply AWp_skip; try simp only [AThen, ABlock]; try (first | (refine hK _ _ ?_; clear hK K) | (clear hK K; refine hK _ _ ?_; clear hK K) | (clear hK K; clear hK K; refine hK _ _ ?_; clear hK K))) | (apply AWp_exit; simp only [AThen, ABlock, reduceIte, Nat.reduceEqDiff]; try (first | (refine hK _ _ ?_; clear hK K) | (clear hK K; refine hK _ _ ?_; clear hK K) | (clear hK K; clear hK K; refine hK _ _ ?_; clear hK K))) | (apply AWp_ret; try simp only [AThen, ABlock]; apply end_ret; rfl; try simp only [AFr.get, reduceIte, Nat.reduceEqDiff])))
      refine finI h ?_
      rw [placeI, place_some hi.2 hm (by simpa using hd)]
    · (repeat' (first | (refine AWp_seq_k (fun K hK => ?_)) | (apply s_region) | (apply s_q; decide; rfl; (solve | (simp only [go_sem]; try rfl))) | (apply s_nil; try simp only [AThen, ABlock]; try (first | (refine hK _ _ ?_; clear hK K) | (clear hK K; refine hK _ _ ?_; clear hK K) | (clear hK K; clear hK K; refine hK _ _ ?_; clear hK K))) | (apply AWp_block) | (apply AWp_skip; try simp only [AThen, ABlock]; try (first | (refine hK _ _ ?_; clear hK K) | (clear hK K; refine hK _ _ ?_; clear hK K) | (clear hK K; clear hK K; refine hK _ _ ?_; clear hK K))) | (apply AWp_exit; simp only [AThen, ABlock, reduceIte, Nat.reduceEqDiff]; try (first | (refine hK _ _ ?_; clear hK K) | (clear hK K; refine hK _ _ ?_; clear hK K) | (clear hK K; clear hK K; refine hK _ _ ?_; clear hK K))) | (apply AWp_ret; try simp only [AThen, ABlock]; apply end_ret; rfl; try simp only [AFr.get, reduceIte, Nat.reduceEqDiff])))
      refine ⟨i + 1, by omega, ⟨by omega, ?_⟩, ?_, by trivial⟩
      · rw [List.take_add_one, hm]
        intro x hx
        rw [List.mem_append] at hx
        rcases hx with hx | hx
        · exact hi.2 x hx
        · simp at hx; subst hx; simpa using hd
      · simp only [getAll, List.map_cons, List.map_nil, AFr.get]
        rw [wrapS hlt (by omega)]; rfl
  · have hge : L.length ≤ i := by simpa using hc
    (repeat' (first | (refine AWp_seq_k (fun K hK => ?_)) | (apply s_region) | (apply s_q; decide; rfl; (solve | (simp only [go_sem]; try rfl))) | (apply s_nil; try simp only [AThen, ABlock]; try (first | (refine hK _ _ ?_; clear hK K) | (clear hK K; refine hK _ _ ?_; clear hK K) | (clear hK K; clear hK K; refine hK _ _ ?_; clear hK K))) | (apply AWp_block) | (apply AWp_skip; try simp only [AThen, ABlock]; try (first | (refine hK _ _ ?_; clear hK K) | (clear hK K; refine hK _ _ ?_; clear hK K) | (clear hK K; clear hK K; refine hK _ _ ?_; clear hK K))) | (apply AWp_exit; simp only [AThen, ABlock, reduceIte, Nat.reduceEqDiff]; try (first | (refine hK _ _ ?_; clear hK K) | (clear hK K; refine hK _ _ ?_; clear hK K) | (clear hK K; clear hK K; refine hK _ _ ?_; clear hK K))) | (apply AWp_ret; try simp only [AThen, ABlock]; apply end_ret; rfl; try simp only [AFr.get, reduceIte, Nat.reduceEqDiff])))
    refine finI h ?_
    have := hi.2
    rw [List.take_of_length_le hge] at this
    rw [placeI, place_none this]

def findM (u : List UInt8) (L : List Mark) : Option Mark := L.find? fun m => decide (m.user = u)
theorem place_find {u : List UInt8} : ∀ {L : List Mark}, match place u L with | some i => i < L.length ∧ ∃ m, L[i]? = some m ∧ findM u L = some m | none => findM u L = none
  | [] => rfl
  | x :: L => by
    have ih := place_find (u := u) (L := L)
    by_cases e : x.user = u
    · simp [place, e, findM]
    · simp only [place, e, if_false]
      cases hp : place u L with
      | none => rw [hp] at ih; simp [findM, e] at ih ⊢; exact ih
      | some i =>
        rw [hp] at ih
        obtain ⟨h1, m, h2, h3⟩ := ih
        refine ⟨by simp; omega, m, by simpa using h2, ?_⟩
        simp only [findM, List.find?_cons, e, decide_false] at h3 ⊢
        exact h3
def getM (u : List UInt8) (L : List Mark) : Mark := (findM u L).getD ⟨[], 0, 0⟩
theorem rget_c (p : Nat) (t : Bool) (u : List UInt8) (L : List Mark) (hl : L.length ≤ 1000000) (H : AHeap) (hB : RB H p t L) (K : AV → AHeap → Prop)
    (h : K (.tup [.agg (getM u L).cells, .v (.bool (findM u L).isSome)]) H) : ACall X 19 [.v (.pointer (some ⟨p, 0, none⟩)), .s u] H K := by
  refine ACall.drop ?_
  have hpf := place_find (u := u) (L := L)
  refine ACall_intro Try.func19 rfl (by kernel_rfl) (by rw [Try.ntmps19]; simp) ?_; rw [Try.ntmps19]; simp only [frame0, Nat.reduceAdd]
  (repeat' (first | (refine AWp_seq_k (fun K hK => ?_)) | (apply s_region) | (apply s_q; decide; rfl; (solve | (simp only [go_sem]; try rfl))) | (apply s_nil; try simp only [AThen, ABlock]; try (first | (refine hK _ _ ?_; clear hK K) | (clear hK K; refine hK _ _ ?_; clear hK K) | (clear hK K; clear hK K; refine hK _ _ ?_; clear hK K))) | (apply AWp_skip; try simp only [AThen, ABlock]; try (first | (refine hK _ _ ?_; clear hK K) | (clear hK K; refine hK _ _ ?_; clear hK K) | (clear hK K; clear hK K; refine hK _ _ ?_; clear hK K))) | (apply AWp_ret; try simp only [AThen, ABlock]; apply end_ret; rfl; try simp only [AFr.get, reduceIte, Nat.reduceEqDiff]) | (apply s_store; (solve | (simp only [go_sem]; try rfl)); (solve | (simp only [go_sem]; try rfl)); (solve | (simp only [go_sem]; try rfl))) | (apply s_alloc; decide; exact zc_31; intro b hb)))
  have hb3 : H.get b = none := by assumption
  have hB1 : RB (H.put b (.box 31 [.s [], .v (.int .i64 0), .v (.int .i64 0)])) p t L := get_fresh hB hb3
  (repeat' (first | (refine AWp_seq_k (fun K hK => ?_)) | (apply s_region) | (apply s_q; decide; rfl; (solve | (simp only [go_sem]; try rfl))) | (apply s_nil; try simp only [AThen, ABlock]; try (first | (refine hK _ _ ?_; clear hK K) | (clear hK K; refine hK _ _ ?_; clear hK K) | (clear hK K; clear hK K; refine hK _ _ ?_; clear hK K))) | (apply AWp_skip; try simp only [AThen, ABlock]; try (first | (refine hK _ _ ?_; clear hK K) | (clear hK K; refine hK _ _ ?_; clear hK K) | (clear hK K; clear hK K; refine hK _ _ ?_; clear hK K))) | (apply AWp_ret; try simp only [AThen, ABlock]; apply end_ret; rfl; try simp only [AFr.get, reduceIte, Nat.reduceEqDiff]) | (apply s_store; (solve | (simp only [go_sem]; try rfl)); (solve | (simp only [go_sem]; try rfl)); (solve | (simp only [go_sem]; try rfl))) | (apply s_alloc; decide; exact zc_31; intro b hb) | (apply s_call; decide; (solve | (simp only [go_sem]; try rfl)); (solve | (simp only [go_sem]; try rfl)); apply find_c p t u L hl _ hB1)))
  unfold RB at hB1
  cases hp : place u L with
  | none =>
    rw [hp] at hpf
    have e1 : placeI u L = -1 := by rw [placeI, hp]
    rw [e1]
    (repeat' (first | (refine AWp_seq_k (fun K hK => ?_)) | (apply s_region) | (apply s_q; decide; rfl; (solve | (simp only [go_sem]; try rfl))) | (apply s_nil; try simp only [AThen, ABlock]; try (first | (refine hK _ _ ?_; clear hK K) | (clear hK K; refine hK _ _ ?_; clear hK K) | (clear hK K; clear hK K; refine hK _ _ ?_; clear hK K))) | (apply AWp_skip; try simp only [AThen, ABlock]; try (first | (refine hK _ _ ?_; clear hK K) | (clear hK K; refine hK _ _ ?_; clear hK K) | (clear hK K; clear hK K; refine hK _ _ ?_; clear hK K))) | (apply AWp_ret; try simp only [AThen, ABlock]; apply end_ret; rfl; try simp only [AFr.get, reduceIte, Nat.reduceEqDiff]) | (apply s_store; (solve | (simp only [go_sem]; try rfl)); (solve | (simp only [go_sem]; try rfl)); (solve | (simp only [go_sem]; try rfl))) | (apply s_alloc; decide; exact zc_31; intro b hb)))
    refine cond_split (by simp only [go_sem]; try rfl) (fun hc => ?_) (fun hc => ?_)
    · (repeat' (first | (refine AWp_seq_k (fun K hK => ?_)) | (apply s_region) | (apply s_q; decide; rfl; (solve | (simp only [go_sem]; try rfl))) | (apply s_nil; try simp only [AThen, ABlock]; try (first | (refine hK _ _ ?_; clear hK K) | (clear hK K; refine hK _ _ ?_; clear hK K) | (clear hK K; clear hK K; refine hK _ _ ?_; clear hK K))) | (apply AWp_skip; try simp only [AThen, ABlock]; try (first | (refine hK _ _ ?_; clear hK K) | (clear hK K; refine hK _ _ ?_; clear hK K) | (clear hK K; clear hK K; refine hK _ _ ?_; clear hK K))) | (apply AWp_ret; try simp only [AThen, ABlock]; apply end_ret; rfl; try simp only [AFr.get, reduceIte, Nat.reduceEqDiff]) | (apply s_store; (solve | (simp only [go_sem]; try rfl)); (solve | (simp only [go_sem]; try rfl)); (solve | (simp only [go_sem]; try rfl))) | (apply s_alloc; decide; exact zc_31; intro b hb)))
      simp only [AThen]
      refine end_ret (av := .tup [.agg [.s [], .v (.int .i64 0), .v (.int .i64 0)], .v (.bool false)]) (by show resAV X.P _ _ [.cell 4 31, .tmp 5] = _; simp only [go_sem]; try rfl) ?_
      refine ⟨H, Ext.fresh hb3, ?_⟩
      simp only [getM, hpf] at h
      exact h
    · simp at hc
  | some i =>
    rw [hp] at hpf
    obtain ⟨h1, m, h2, h3⟩ := hpf
    have e1 : placeI u L = i := by rw [placeI, hp]
    have hg : (L.map Mark.cells)[i]? = some [.s m.user, .v (.int .i64 m.at_), .v (.int .i64 m.ts)] := by rw [List.getElem?_map, h2]; rfl
    rw [e1]
    (repeat' (first | (refine AWp_seq_k (fun K hK => ?_)) | (apply s_region) | (apply s_q; decide; rfl; (solve | (simp only [go_sem]; try rfl))) | (apply s_nil; try simp only [AThen, ABlock]; try (first | (refine hK _ _ ?_; clear hK K) | (clear hK K; refine hK _ _ ?_; clear hK K) | (clear hK K; clear hK K; refine hK _ _ ?_; clear hK K))) | (apply AWp_skip; try simp only [AThen, ABlock]; try (first | (refine hK _ _ ?_; clear hK K) | (clear hK K; refine hK _ _ ?_; clear hK K) | (clear hK K; clear hK K; refine hK _ _ ?_; clear hK K))) | (apply AWp_ret; try simp only [AThen, ABlock]; apply end_ret; rfl; try simp only [AFr.get, reduceIte, Nat.reduceEqDiff]) | (apply s_store; (solve | (simp only [go_sem]; try rfl)); (solve | (simp only [go_sem]; try rfl)); (solve | (simp only [go_sem]; try rfl))) | (apply s_alloc; decide; exact zc_31; intro b hb)))
    refine cond_split (by simp only [go_sem]; try rfl) (fun hc => ?_) (fun hc => ?_)
    · simp at hc; omega
    · (repeat' (first | (refine AWp_seq_k (fun K hK => ?_)) | (apply s_region) | (apply s_q; decide; rfl; (solve | (simp only [go_sem, hB1, hg]; try rfl))) | (apply s_nil; try simp only [AThen, ABlock]; try (first | (refine hK _ _ ?_; clear hK K) | (clear hK K; refine hK _ _ ?_; clear hK K) | (clear hK K; clear hK K; refine hK _ _ ?_; clear hK K))) | (apply AWp_skip; try simp only [AThen, ABlock]; try (first | (refine hK _ _ ?_; clear hK K) | (clear hK K; refine hK _ _ ?_; clear hK K) | (clear hK K; clear hK K; refine hK _ _ ?_; clear hK K))) | (apply AWp_ret; try simp only [AThen, ABlock]; apply end_ret; rfl; try simp only [AFr.get, reduceIte, Nat.reduceEqDiff]) | (apply s_store; (solve | (simp only [go_sem, hB1, hg]; try rfl)); (solve | (simp only [go_sem, hB1, hg]; try rfl)); (solve | (simp only [go_sem, hB1, hg]; try rfl))) | (apply s_alloc; decide; exact zc_31; intro b hb)))
      try simp only [AThen]
      refine end_ret (av := .tup [.agg [.s m.user, .v (.int .i64 m.at_), .v (.int .i64 m.ts)], .v (.bool true)]) (by show resAV X.P _ _ [.cell 4 31, .tmp 5] = _; simp only [go_sem]; try rfl) ?_
      refine ⟨H, Ext.fresh hb3, ?_⟩
      simp only [getM, h3] at h
      exact h

def runread (u : List UInt8) (L : List Mark) (S : List (List UInt8)) : Nat := ((S.zipIdx).filter fun x => ((!(findM u L).isSome) || decide ((getM u L).at_ < (x.2 : Int))) && !decide (x.1 = u)).length
theorem runread_c (p : Nat) (t t2 : Bool) (u : List UInt8) (L : List Mark) (S : List (List UInt8)) (hl : L.length ≤ 1000000) (hS : S.length ≤ 1000000) (H : AHeap) (hB : RB H p t L) (K : AV → AHeap → Prop)
    (h : K (.v (.int .i64 (runread u L S))) H) : ACall X 20 [.v (.pointer (some ⟨p, 0, none⟩)), .s u, .sl t2 (S.map bytesCells)] H K := by
  refine ACall.drop ?_
  obtain ⟨⟨gu, ga, gt⟩, hga⟩ : ∃ g, getM u L = g := ⟨_, rfl⟩
  obtain ⟨f, hf⟩ : ∃ f, (findM u L).isSome = f := ⟨_, rfl⟩
  refine ACall_intro Try.func20 rfl (by kernel_rfl) (by rw [Try.ntmps20]; simp) ?_; rw [Try.ntmps20]; simp only [frame0, Nat.reduceAdd]
  (repeat' (first | (refine AWp_seq_k (fun K hK => ?_)) | (apply s_region) | (apply s_q; decide; rfl; (solve | (simp only [go_sem, hga, hf, Mark.cells]; try rfl))) | (apply s_nil; try simp only [AThen, ABlock]; try (first | (refine hK _ _ ?_; clear hK K) | (clear hK K; refine hK _ _ ?_; clear hK K) | (clear hK K; clear hK K; refine hK _ _ ?_; clear hK K))) | (apply AWp_block) | (apply AWp_skip; try simp only [AThen, ABlock]; try (first | (refine hK _ _ ?_; clear hK K) | (clear hK K; refine hK _ _ ?_; clear hK K) | (clear hK K; clear hK K; refine hK _ _ ?_; clear hK K))) | (apply AWp_exit; simp only [AThen, ABlock, reduceIte, Nat.reduceEqDiff]; try (first | (refine hK _ _ ?_; clear hK K) | (clear hK K; refine hK _ _ ?_; clear hK K) | (clear hK K; clear hK K; refine hK _ _ ?_; clear hK K))) | (apply AWp_ret; try simp only [AThen, ABlock]; apply end_ret; rfl; try simp only [AFr.get, reduceIte, Nat.reduceEqDiff]) | (apply s_store; (solve | (simp only [go_sem, hga, hf, Mark.cells]; try rfl)); (solve | (simp only [go_sem, hga, hf, Mark.cells]; try rfl)); (solve | (simp only [go_sem, hga, hf, Mark.cells]; try rfl))) | (apply s_alloc; decide; exact zc_31; intro b hb) | (apply s_spec; decide; rfl; rfl; (solve | (simp only [go_sem, hga, hf, Mark.cells]; try rfl)); (solve | (simp only [go_sem, hga, hf, Mark.cells]; try rfl)); (solve | (simp only [go_sem, hga, hf, Mark.cells]; try rfl)); (solve | (simp only [go_sem, hga, hf, Mark.cells]; try rfl)); (solve | trivial | simp only [condsOk] | simp [condsOk] | simp_all [condsOk])) | (apply s_pick; decide; (solve | (simp only [go_sem, hga, hf, Mark.cells]; try rfl)); (solve | (simp only [go_sem, hga, hf, Mark.cells]; try rfl)); (solve | (simp only [go_sem, hga, hf, Mark.cells]; try rfl)); (solve | (simp only [go_sem, hga, hf, Mark.cells]; try rfl)); (solve | (simp only [go_sem, hga, hf, Mark.cells]; try rfl)); (solve | (simp only [go_sem, hga, hf, Mark.cells]; try rfl)); (solve | trivial | simp only [condsOk] | simp [condsOk] | simp_all [condsOk]); (solve | trivial | simp only [condsOk] | simp [condsOk] | simp_all [condsOk]); (solve | trivial | simp only [condsOk] | simp [condsOk] | simp_all [condsOk])) | (apply s_call; decide; (solve | (simp only [go_sem, hga, hf, Mark.cells]; try rfl)); (solve | (simp only [go_sem, hga, hf, Mark.cells]; try rfl)); apply rget_c p t u L hl _ hB)))
  have hb3 : H.get b = none := by assumption
  have hB3 := AHeap.get_put_same b (.box 31 [.s gu, .v (.int .i64 ga), .v (.int .i64 gt)]) H
  refine AWp_loop_s (σ := Nat × Nat) [1, 2, 7, 8, 9, 10] (fun s => [.s u, .sl t2 (S.map bytesCells), ptrTo b, .v (.bool f), .v (.int .i64 s.2), .v (.int .i64 s.1)]) (fun _ => _) (fun s => S.length - s.1) (fun s => s.1 ≤ S.length ∧ s.2 ≤ s.1 ∧ s.2 = (((S.take s.1).zipIdx).filter fun x => ((!f) || decide (ga < (x.2 : Int))) && !decide (x.1 = u)).length) (0, 0) ⟨Nat.zero_le _, Nat.zero_le _, by simp⟩ rfl rfl (fun s hs => ?_)
  obtain ⟨i, n⟩ := s
  simp only [List.zip_cons_cons, List.zip_nil_right] at hs ⊢
  (repeat' (first | (refine AWp_seq_k (fun K hK => ?_)) | (apply s_region) | (apply s_q; decide; rfl; (solve | (simp only [go_sem]; try rfl))) | (apply s_nil; try simp only [AThen, ABlock]; try (first | (refine hK _ _ ?_; clear hK K) | (clear hK K; refine hK _ _ ?_; clear hK K) | (clear hK K; clear hK K; refine hK _ _ ?_; clear hK K))) | (apply AWp_block) | (apply AWp_skip; try simp only [AThen, ABlock]; try (first | (refine hK _ _ ?_; clear hK K) | (clear hK K; refine hK _ _ ?_; clear hK K) | (clear hK K; clear hK K; refine hK _ _ ?_; clear hK K))) | (apply AWp_exit; simp only [AThen, ABlock, reduceIte, Nat.reduceEqDiff]; try (first | (refine hK _ _ ?_; clear hK K) | (clear hK K; refine hK _ _ ?_; clear hK K) | (clear hK K; clear hK K; refine hK _ _ ?_; clear hK K))) | (apply AWp_ret; try simp only [AThen, ABlock]; apply end_ret; rfl; try simp only [AFr.get, reduceIte, Nat.reduceEqDiff]) | (apply s_store; (solve | (simp only [go_sem]; try rfl)); (solve | (simp only [go_sem]; try rfl)); (solve | (simp only [go_sem]; try rfl))) | (apply s_alloc; decide; exact zc_31; intro b hb) | (apply s_spec; decide; rfl; rfl; (solve | (simp only [go_sem]; try rfl)); (solve | (simp only [go_sem]; try rfl)); (solve | (simp only [go_sem]; try rfl)); (solve | (simp only [go_sem]; try rfl)); (solve | trivial | simp only [condsOk] | simp [condsOk] | simp_all [condsOk])) | (apply s_pick; decide; (solve | (simp only [go_sem]; try rfl)); (solve | (simp only [go_sem]; try rfl)); (solve | (simp only [go_sem]; try rfl)); (solve | (simp only [go_sem]; try rfl)); (solve | (simp only [go_sem]; try rfl)); (solve | (simp only [go_sem]; try rfl)); (solve | trivial | simp only [condsOk] | simp [condsOk] | simp_all [condsOk]); (solve | trivial | simp only [condsOk] | simp [condsOk] | simp_all [condsOk]); (solve | trivial | simp only [condsOk] | simp [condsOk] | simp_all [condsOk]))))
  refine cond_split (by simp only [go_sem]; try rfl) (fun hd => ?_) (fun hd => ?_)
  · have hlt : i < S.length := by simpa using hd
    obtain ⟨x, hm⟩ : ∃ a, S[i]? = some a := ⟨_, List.getElem?_eq_getElem hlt⟩
    have hgx : (S.map bytesCells)[i]? = some [.s x] := by rw [List.getElem?_map, hm]; rfl
    have hst : (((S.take (i + 1)).zipIdx).filter fun x => ((!f) || decide (ga < (x.2 : Int))) && !decide (x.1 = u)).length = n + if ((!f) || decide (ga < (i : Int))) && !decide (x = u) then 1 else 0 := by
      rw [List.take_add_one, hm, hs.2.2]
      simp only [Option.toList_some, List.zipIdx_append, List.filter_append, List.length_append, List.length_take, Nat.min_eq_left (Nat.le_of_lt hlt), Nat.zero_add, List.zipIdx_cons, List.zipIdx_nil]
      by_cases e : ((!f) || decide (ga < (i : Int))) && !decide (x = u)
      · simp [e]
      · simp [e]
    (repeat' (first | (refine AWp_seq_k (fun K hK => ?_)) | (apply s_region) | (apply s_q; decide; rfl; (solve | (simp only [go_sem, hB3, hgx]; try rfl))) | (apply s_nil; try simp only [AThen, ABlock]; try (first | (refine hK _ _ ?_; clear hK K) | (clear hK K; refine hK _ _ ?_; clear hK K) | (clear hK K; clear hK K; refine hK _ _ ?_; clear hK K))) | (apply AWp_block) | (apply AWp_skip; try simp only [AThen, ABlock]; try (first | (refine hK _ _ ?_; clear hK K) | (clear hK K; refine hK _ _ ?_; clear hK K) | (clear hK K; clear hK K; refine hK _ _ ?_; clear hK K))) | (apply AWp_exit; simp only [AThen, ABlock, reduceIte, Nat.reduceEqDiff]; try (first | (refine hK _ _ ?_; clear hK K) | (clear hK K; refine hK _ _ ?_; clear hK K) | (clear hK K; clear hK K; refine hK _ _ ?_; clear hK K))) | (apply AWp_ret; try simp only [AThen, ABlock]; apply end_ret; rfl; try simp only [AFr.get, reduceIte, Nat.reduceEqDiff]) | (apply s_store; (solve | (simp only [go_sem, hB3, hgx]; try rfl)); (solve | (simp only [go_sem, hB3, hgx]; try rfl)); (solve | (simp only [go_sem, hB3, hgx]; try rfl))) | (apply s_alloc; decide; exact zc_31; intro b hb) | (apply s_spec; decide; rfl; rfl; (solve | (simp only [go_sem, hB3, hgx]; try rfl)); (solve | (simp only [go_sem, hB3, hgx]; try rfl)); (solve | (simp only [go_sem, hB3, hgx]; try rfl)); (solve | (simp only [go_sem, hB3, hgx]; try rfl)); (solve | trivial | simp only [condsOk] | simp [condsOk] | simp_all [condsOk])) | (apply s_pick; decide; (solve | (simp only [go_sem, hB3, hgx]; try rfl)); (solve | (simp only [go_sem, hB3, hgx]; try rfl)); (solve | (simp only [go_sem, hB3, hgx]; try rfl)); (solve | (simp only [go_sem, hB3, hgx]; try rfl)); (solve | (simp only [go_sem, hB3, hgx]; try rfl)); (solve | (simp only [go_sem, hB3, hgx]; try rfl)); (solve | trivial | simp only [condsOk] | simp [condsOk] | simp_all [condsOk]); (solve | trivial | simp only [condsOk] | simp [condsOk] | simp_all [condsOk]); (solve | trivial | simp only [condsOk] | simp [condsOk] | simp_all [condsOk])) | (apply s_when; decide; (solve | (simp only [go_sem, hB3, hgx]; try rfl)); (solve | (simp only [go_sem, hB3, hgx]; try rfl)); (solve | (simp only [go_sem, hB3, hgx]; try rfl)); (solve | trivial | simp only [condsOk] | simp [condsOk] | simp_all [condsOk]); (intro hg; simp only [go_sem, hgx]; try rfl))))
    have e : (if (if (!f) = true then true else decide (ga < (i : Int))) = true then !decide (x = u) else false) = (((!f) || decide (ga < (i : Int))) && !decide (x = u)) := by
      generalize decide (ga < (i : Int)) = a1, decide (x = u) = a2
      cases f <;> cases a1 <;> cases a2 <;> rfl
    rw [e]
    refine cond_split (by simp only [go_sem]; try rfl) (fun hq => ?_) (fun hq => ?_)
    · rw [hq] at hst
      (repeat' (first | (refine AWp_seq_k (fun K hK => ?_)) | (apply s_region) | (apply s_q; decide; rfl; (solve | (simp only [go_sem]; try rfl))) | (apply s_nil; try simp only [AThen, ABlock]; try (first | (refine hK _ _ ?_; clear hK K) | (clear hK K; refine hK _ _ ?_; clear hK K) | (clear hK K; clear hK K; refine hK _ _ ?_; clear hK K))) | (apply AWp_block) | (apply AWp_skip; try simp only [AThen, ABlock]; try (first | (refine hK _ _ ?_; clear hK K) | (clear hK K; refine hK _ _ ?_; clear hK K) | (clear hK K; clear hK K; refine hK _ _ ?_; clear hK K))) | (apply AWp_exit; simp only [AThen, ABlock, reduceIte, Nat.reduceEqDiff]; try (first | (refine hK _ _ ?_; clear hK K) | (clear hK K; refine hK _ _ ?_; clear hK K) | (clear hK K; clear hK K; refine hK _ _ ?_; clear hK K))) | (apply AWp_ret; try simp only [AThen, ABlock]; apply end_ret; rfl; try simp only [AFr.get, reduceIte, Nat.reduceEqDiff]) | (apply s_store; (solve | (simp only [go_sem]; try rfl)); (solve | (simp only [go_sem]; try rfl)); (solve | (simp only [go_sem]; try rfl))) | (apply s_alloc; decide; exact zc_31; intro b hb) | (apply s_spec; decide; rfl; rfl; (solve | (simp only [go_sem]; try rfl)); (solve | (simp only [go_sem]; try rfl)); (solve | (simp only [go_sem]; try rfl)); (solve | (simp only [go_sem]; try rfl)); (solve | trivial | simp only [condsOk] | simp [condsOk] | simp_all [condsOk])) | (apply s_pick; decide; (solve | (simp only [go_sem]; try rfl)); (solve | (simp only [go_sem]; try rfl)); (solve | (simp only [go_sem]; try rfl)); (solve | (simp only [go_sem]; try rfl)); (solve | (simp only [go_sem]; try rfl)); (solve | (simp only [go_sem]; try rfl)); (solve | trivial | simp only [condsOk] | simp [condsOk] | simp_all [condsOk]); (solve | trivial | simp only [condsOk] | simp [condsOk] | simp_all [condsOk]); (solve | trivial | simp only [condsOk] | simp [condsOk] | simp_all [condsOk]))))
      refine ⟨(i + 1, n + 1), by simp only; omega, ⟨by simp only; omega, by simp only; omega, by simp only; rw [hst]; rfl⟩, ?_, by trivial⟩
      simp only [getAll, List.map_cons, List.map_nil, AFr.get, reduceIte, Nat.reduceEqDiff]
      rw [wrapS hlt (by omega), wrap64 (by omega)]; try rfl
    · rw [hq] at hst
      (repeat' (first | (refine AWp_seq_k (fun K hK => ?_)) | (apply s_region) | (apply s_q; decide; rfl; (solve | (simp only [go_sem]; try rfl))) | (apply s_nil; try simp only [AThen, ABlock]; try (first | (refine hK _ _ ?_; clear hK K) | (clear hK K; refine hK _ _ ?_; clear hK K) | (clear hK K; clear hK K; refine hK _ _ ?_; clear hK K))) | (apply AWp_block) | (apply AWp_skip; try simp only [AThen, ABlock]; try (first | (refine hK _ _ ?_; clear hK K) | (clear hK K; refine hK _ _ ?_; clear hK K) | (clear hK K; clear hK K; refine hK _ _ ?_; clear hK K))) | (apply AWp_exit; simp only [AThen, ABlock, reduceIte, Nat.reduceEqDiff]; try (first | (refine hK _ _ ?_; clear hK K) | (clear hK K; refine hK _ _ ?_; clear hK K) | (clear hK K; clear hK K; refine hK _ _ ?_; clear hK K))) | (apply AWp_ret; try simp only [AThen, ABlock]; apply end_ret; rfl; try simp only [AFr.get, reduceIte, Nat.reduceEqDiff]) | (apply s_store; (solve | (simp only [go_sem]; try rfl)); (solve | (simp only [go_sem]; try rfl)); (solve | (simp only [go_sem]; try rfl))) | (apply s_alloc; decide; exact zc_31; intro b hb) | (apply s_spec; decide; rfl; rfl; (solve | (simp only [go_sem]; try rfl)); (solve | (simp only [go_sem]; try rfl)); (solve | (simp only [go_sem]; try rfl)); (solve | (simp only [go_sem]; try rfl)); (solve | trivial | simp only [condsOk] | simp [condsOk] | simp_all [condsOk])) | (apply s_pick; decide; (solve | (simp only [go_sem]; try rfl)); (solve | (simp only [go_sem]; try rfl)); (solve | (simp only [go_sem]; try rfl)); (solve | (simp only [go_sem]; try rfl)); (solve | (simp only [go_sem]; try rfl)); (solve | (simp only [go_sem]; try rfl)); (solve | trivial | simp only [condsOk] | simp [condsOk] | simp_all [condsOk]); (solve | trivial | simp only [condsOk] | simp [condsOk] | simp_all [condsOk]); (solve | trivial | simp only [condsOk] | simp [condsOk] | simp_all [condsOk]))))
      refine ⟨(i + 1, n), by simp only; omega, ⟨by simp only; omega, by simp only; omega, by simp only; rw [hst]; rfl⟩, ?_, by trivial⟩
      simp only [getAll, List.map_cons, List.map_nil, AFr.get, reduceIte, Nat.reduceEqDiff]
      rw [wrapS hlt (by omega)]; try rfl
  · have hge : S.length ≤ i := by simpa using hd
    (repeat' (first | (refine AWp_seq_k (fun K hK => ?_)) | (apply s_region) | (apply s_q; decide; rfl; (solve | (simp only [go_sem]; try rfl))) | (apply s_nil; try simp only [AThen, ABlock]; try (first | (refine hK _ _ ?_; clear hK K) | (clear hK K; refine hK _ _ ?_; clear hK K) | (clear hK K; clear hK K; refine hK _ _ ?_; clear hK K))) | (apply AWp_block) | (apply AWp_skip; try simp only [AThen, ABlock]; try (first | (refine hK _ _ ?_; clear hK K) | (clear hK K; refine hK _ _ ?_; clear hK K) | (clear hK K; clear hK K; refine hK _ _ ?_; clear hK K))) | (apply AWp_exit; simp only [AThen, ABlock, reduceIte, Nat.reduceEqDiff]; try (first | (refine hK _ _ ?_; clear hK K) | (clear hK K; refine hK _ _ ?_; clear hK K) | (clear hK K; clear hK K; refine hK _ _ ?_; clear hK K))) | (apply AWp_ret; try simp only [AThen, ABlock]; apply end_ret; rfl; try simp only [AFr.get, reduceIte, Nat.reduceEqDiff]) | (apply s_store; (solve | (simp only [go_sem]; try rfl)); (solve | (simp only [go_sem]; try rfl)); (solve | (simp only [go_sem]; try rfl))) | (apply s_alloc; decide; exact zc_31; intro b hb) | (apply s_spec; decide; rfl; rfl; (solve | (simp only [go_sem]; try rfl)); (solve | (simp only [go_sem]; try rfl)); (solve | (simp only [go_sem]; try rfl)); (solve | (simp only [go_sem]; try rfl)); (solve | trivial | simp only [condsOk] | simp [condsOk] | simp_all [condsOk])) | (apply s_pick; decide; (solve | (simp only [go_sem]; try rfl)); (solve | (simp only [go_sem]; try rfl)); (solve | (simp only [go_sem]; try rfl)); (solve | (simp only [go_sem]; try rfl)); (solve | (simp only [go_sem]; try rfl)); (solve | (simp only [go_sem]; try rfl)); (solve | trivial | simp only [condsOk] | simp [condsOk] | simp_all [condsOk]); (solve | trivial | simp only [condsOk] | simp [condsOk] | simp_all [condsOk]); (solve | trivial | simp only [condsOk] | simp [condsOk] | simp_all [condsOk]))))
    refine ⟨H, Ext.fresh (by assumption), ?_⟩
    refine finI h ?_
    rw [hs.2.2, List.take_of_length_le hge, runread, hga, hf]
end Go.Proofs.Ytpdfgmedbphmkaa
