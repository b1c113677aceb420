/-
  The document's board: contracts.
-/
import Derived.Test.YtpdfgmedbphmkaaGreatDoorW26O
import Derived.Test.YtpdfgmedbphmkaaGreatDoorW26Q
set_option linter.unusedSimpArgs false
set_option linter.unusedVariables false
set_option maxRecDepth 100000
namespace Go.Proofs.YtpdfgmedbphmkaaGreatDoor
open Go Go.AL
attribute [local irreducible] AOps AWp SOps AE AT ACall AApp

def RB (H : AHeap) (p : Nat) (t : Bool) (L : List Mark) : Prop := H.get p = some (.box 38 [.sl t (L.map Mark.cells)])
/-- the first place of a user's mark -/
def place (u : List UInt8) : List Mark → Option Nat
  | [] => none
  | m :: L => if m.user = u then some 0 else (place u L).map (· + 1)
theorem place_some {u : List UInt8} : ∀ {L : List Mark} {i : Nat} {m : Mark}, (∀ x ∈ L.take i, x.user ≠ u) → L[i]? = some m → m.user = u → place u L = some i
  | [], i, m, _, h, _ => by cases h
  | x :: L, 0, m, _, h, e => by simp at h; subst h; simp [place, e]
  | x :: L, i + 1, m, h1, h2, e => by
    have hx : x.user ≠ u := h1 x (by simp)
    have ih := place_some (L := L) (i := i) (fun y hy => h1 y (by simp [hy])) (by simpa using h2) e
    simp [place, hx, ih]
theorem place_none {u : List UInt8} : ∀ {L : List Mark}, (∀ x ∈ L, x.user ≠ u) → place u L = none
  | [], _ => rfl
  | x :: L, h => by
    have hx : x.user ≠ u := h x (by simp)
    have ih := place_none (L := L) (fun y hy => h y (by simp [hy]))
    simp [place, hx, ih]
def placeI (u : List UInt8) (L : List Mark) : Int := match place u L with | some i => i | none => -1

theorem find_c (p : Nat) (t : Bool) (u : List UInt8) (L : List Mark) (hl : L.length ≤ 1000000) (H : AHeap) (hB : RB H p t L) (K : AV → AHeap → Prop) (h : K (.v (.int .i64 (placeI u L))) H) : ACall X 35 [.v (.pointer (some ⟨p, 0, none⟩)), .s u] H K := by
  unfold RB at hB
  refine ACall_intro Tryz.func35 rfl (by kernel_rfl) (by rw [Tryz.ntmps35]; simp) ?_; rw [Tryz.ntmps35]; simp only [frame0, Nat.reduceAdd]
  (refine AWp_seq_k (fun K hK => ?_); apply s_region; apply s_q; decide; rfl; (simp only [go_sem]; rfl); apply s_nil; simp only [AThen, ABlock]; refine hK _ _ ?_; clear hK K; (iterate 2 (refine AWp_seq_k (fun K hK => ?_))); apply s_region; apply s_q; decide; rfl; (simp only [go_sem]; rfl); apply s_nil; simp only [AThen, ABlock]; refine hK _ _ ?_; clear hK K; apply AWp_block)
  refine AWp_loop_s (σ := Nat) [0, 1, 5] (fun i => [.v (.pointer (some ⟨p, 0, none⟩)), .s u, .v (.int .i64 i)]) (fun _ => H) (fun i => L.length - i) (fun i => i ≤ L.length ∧ ∀ x ∈ L.take i, x.user ≠ u) 0 ⟨Nat.zero_le _, by simp⟩ rfl rfl (fun i hi => ?_)
  simp only [List.zip_cons_cons, List.zip_nil_right]
  ((iterate 2 (refine AWp_seq_k (fun K hK => ?_))); apply s_region; (iterate 7 (apply s_q; decide; rfl; (simp only [go_sem, hB]; rfl))); apply s_nil; simp only [AThen, ABlock]; refine hK _ _ ?_; clear hK K)
  refine cond_split (by simp only [go_sem]; try rfl) (fun hc => ?_) (fun hc => ?_)
  · have hlt : i < L.length := by simpa using hc
    obtain ⟨m, hm⟩ : ∃ a, L[i]? = some a := ⟨_, List.getElem?_eq_getElem hlt⟩
    have hg : (L.map Mark.cells)[i]? = some [.s m.user, .v (.int .i64 m.at_), .v (.int .i64 m.ts)] := by rw [List.getElem?_map, hm]; rfl
    (apply AWp_skip; simp only [AThen, ABlock]; refine hK _ _ ?_; clear hK K; refine AWp_seq_k (fun K hK => ?_); apply AWp_block; refine AWp_seq_k (fun K hK => ?_); apply s_region; (iterate 10 (apply s_q; decide; rfl; (simp only [go_sem, hB, hg]; rfl))); apply s_nil; simp only [AThen, ABlock]; refine hK _ _ ?_; clear hK K)
    refine cond_split (by simp only [go_sem]; try rfl) (fun hd => ?_) (fun hd => ?_)
    · (refine AWp_seq_k (fun K hK => ?_); apply s_region; (iterate 2 (apply s_q; decide; rfl; (simp only [go_sem]; rfl))); apply s_nil; simp only [AThen, ABlock]; refine hK _ _ ?_; clear hK K; apply AWp_ret; simp only [AThen, ABlock]; apply end_ret; rfl; simp only [AFr.get, reduceIte, Nat.reduceEqDiff])
      refine finI h ?_
      rw [placeI, place_some hi.2 hm (by simpa using hd)]
    · (apply AWp_skip; simp only [AThen, ABlock]; refine hK _ _ ?_; clear hK K; apply s_region; (iterate 3 (apply s_q; decide; rfl; (simp only [go_sem]; rfl))); apply s_nil; simp only [AThen, ABlock])
      refine ⟨i + 1, by omega, ⟨by omega, ?_⟩, ?_, by trivial⟩
      · rw [List.take_add_one, hm]
        intro x hx
        rw [List.mem_append] at hx
        rcases hx with hx | hx
        · exact hi.2 x hx
        · simp at hx; subst hx; simpa using hd
      · simp only [getAll, List.map_cons, List.map_nil, AFr.get]
        rw [wrapS hlt (by omega)]; rfl
  · have hge : L.length ≤ i := by simpa using hc
    (apply AWp_exit; simp only [AThen, ABlock, reduceIte, Nat.reduceEqDiff]; clear hK K; refine hK _ _ ?_; clear hK K; refine AWp_seq_k (fun K hK => ?_); apply s_region; apply s_q; decide; rfl; (simp only [go_sem]; rfl); apply s_nil; simp only [AThen, ABlock]; refine hK _ _ ?_; clear hK K; apply AWp_ret)
    refine finI h ?_
    have := hi.2
    rw [List.take_of_length_le hge] at this
    rw [placeI, place_none this]

def findM (u : List UInt8) (L : List Mark) : Option Mark := L.find? fun m => decide (m.user = u)
theorem place_find {u : List UInt8} : ∀ {L : List Mark}, match place u L with | some i => i < L.length ∧ ∃ m, L[i]? = some m ∧ findM u L = some m | none => findM u L = none
  | [] => rfl
  | x :: L => by
    have ih := place_find (u := u) (L := L)
    by_cases e : x.user = u
    · simp [place, e, findM]
    · simp only [place, e, if_false]
      cases hp : place u L with
      | none => rw [hp] at ih; simp [findM, e] at ih ⊢; exact ih
      | some i =>
        rw [hp] at ih
        obtain ⟨h1, m, h2, h3⟩ := ih
        refine ⟨by simp; omega, m, by simpa using h2, ?_⟩
        simp only [findM, List.find?_cons, e, decide_false] at h3 ⊢
        exact h3
def getM (u : List UInt8) (L : List Mark) : Mark := (findM u L).getD ⟨[], 0, 0⟩
def runread (u : List UInt8) (L : List Mark) (S : List (List UInt8)) : Nat := ((S.zipIdx).filter fun x => ((!(findM u L).isSome) || decide ((getM u L).at_ < (x.2 : Int))) && !decide (x.1 = u)).length
end Go.Proofs.YtpdfgmedbphmkaaGreatDoor
