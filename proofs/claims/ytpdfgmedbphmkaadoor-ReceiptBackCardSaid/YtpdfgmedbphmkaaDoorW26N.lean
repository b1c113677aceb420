/-
  The law ReceiptMerges, walked.
-/
import Derived.Test.YtpdfgmedbphmkaaDoorW26M
set_option linter.unusedSimpArgs false
set_option linter.unusedVariables false
set_option maxRecDepth 100000
namespace Go.Proofs.YtpdfgmedbphmkaaDoor
open Go Go.AL
attribute [local irreducible] AOps AWp SOps AE AT ACall AApp

structure Bo (L : List Mark) (n : Nat) (ms : List (List UInt8 × Mark)) : Prop where
  best : ∀ u, IsBest u L (afind u ms)
  nod : Nod ms
  len : ms.length ≤ n
theorem Bo.board (l : List Mark) : Bo l l.length (boardOf l) := ⟨best_board l, nod_board l, by have := fold_len l []; simpa [boardOf] using this⟩
theorem merge1_eq (l : List Mark) (ms : List (List UInt8 × Mark)) : (merge1 l ms).2 = l.foldl (fun ms m => (put1 m ms).2.2) ms := merge1_snd l 0 ms
theorem Bo.merge {L : List Mark} {n : Nat} {ms : List (List UInt8 × Mark)} (h : Bo L n ms) (l : List Mark) : Bo (L ++ l) (n + l.length) (merge1 l ms).2 := by
  rw [merge1_eq]
  exact ⟨best_fold l h.best, nod_fold l h.nod, Nat.le_trans (fold_len l ms) (Nat.add_le_add_right h.len _)⟩
theorem allOf_len (ms : List (List UInt8 × Mark)) : (allOf ms).length = ms.length := by simp only [allOf, List.length_map, sortL_length]
theorem Bo.mem {L : List Mark} {n : Nat} {ms : List (List UInt8 × Mark)} (h : Bo L n ms) {m : Mark} (hm : m ∈ allOf ms) : m ∈ L ∧ okMark m = true ∧ afind m.user ms = some m := by
  obtain ⟨u, hu⟩ := mem_allOf.1 hm
  have := h.best u
  rw [hu] at this
  obtain ⟨h1, h2, h3, _⟩ := this
  exact ⟨h1, h2, by rw [h3]; exact hu⟩
theorem Bo.bd {L : List Mark} {n : Nat} {ms : List (List UInt8 × Mark)} (h : Bo L n ms) (hn : n ≤ 1000000) (hu : ∀ m ∈ L, m.user.length < 4294967281) : Bd ms :=
  ⟨Nat.le_trans h.len hn, fun x hx => by
    have hk : x.1 ∈ ms.map (·.1) := List.mem_map.2 ⟨x, hx, rfl⟩
    obtain ⟨m, hm⟩ := afind_mem hk
    have := h.best x.1
    rw [hm] at this
    rw [← this.2.2.1]
    exact hu m this.1⟩
theorem Bo.covL {L : List Mark} {n : Nat} {ms : List (List UInt8 × Mark)} (h : Bo L n ms) : Cov L (allOf ms) := fun m hm ho => by
  have := h.best m.user
  cases hf : afind m.user ms with
  | none => rw [hf] at this; exact absurd rfl (this m hm ho)
  | some x =>
    rw [hf] at this
    exact ⟨x, mem_allOf.2 ⟨_, hf⟩, this.2.1, this.2.2.1, this.2.2.2 m hm ho rfl⟩
theorem Bo.covR {L : List Mark} {n : Nat} {ms : List (List UInt8 × Mark)} (h : Bo L n ms) : Cov (allOf ms) L := Cov.sub fun m hm => (h.mem hm).1
theorem Bo.same {L L' : List Mark} {n n' : Nat} {ms ms' : List (List UInt8 × Mark)} (h : Bo L n ms) (h' : Bo L' n' ms') (k : Cov L L') (k' : Cov L' L) : allOf ms = allOf ms' := allOf_cov h.nod h'.nod h.best h'.best k k'
/-- whoever has all of these already takes none -/
theorem merge1_none {L : List Mark} {n : Nat} {ms : List (List UInt8 × Mark)} (h : Bo L n ms) : ∀ {l : List Mark}, Cov l L → merge1 l ms = (0, ms) := by
  intro l hc
  have one : ∀ m ∈ l, (put1 m ms).1 = false ∧ (put1 m ms).2.2 = ms := fun m hm => by
    simp only [put1]
    split
    · rename_i ho
      obtain ⟨y, hy, yo, yu, yl⟩ := hc m hm ho
      have hb := h.best m.user
      cases hf : afind m.user ms with
      | none => rw [hf] at hb; exact absurd yu (hb y hy yo)
      | some x =>
        rw [hf] at hb
        have hle : later m x ≤ 0 := (later_le m x).2 (yl.trans (hb.2.2.2 y hy yo yu))
        simp only
        rw [if_pos hle]
        exact ⟨rfl, rfl⟩
    · exact ⟨rfl, rfl⟩
  have go : ∀ (l : List Mark), (∀ m ∈ l, (put1 m ms).1 = false ∧ (put1 m ms).2.2 = ms) → ∀ k, l.foldl (fun s m => ((if (put1 m s.2).1 then s.1 + 1 else s.1), (put1 m s.2).2.2)) (k, ms) = (k, ms) := by
    intro l
    induction l with
    | nil => intro _ k; rfl
    | cons m l ih =>
      intro hl k
      obtain ⟨h1, h2⟩ := hl m (by simp)
      simp only [List.foldl_cons, h1, h2]
      exact ih (fun x hx => hl x (by simp [hx])) k
  exact go l one 0
theorem Cov.left {a b : List Mark} : Cov a (a ++ b) := Cov.sub fun m hm => by simp [hm]
theorem Cov.right {a b : List Mark} : Cov b (a ++ b) := Cov.sub fun m hm => by simp [hm]
theorem Cov.join {a b c : List Mark} (h : Cov a c) (k : Cov b c) : Cov (a ++ b) c := fun m hm ho => by
  rcases List.mem_append.1 hm with hm | hm
  · exact h m hm ho
  · exact k m hm ho

theorem IsBoard.put {H : AHeap} {p q p' q' : Nat} {ms ms' : List (List UInt8 × Mark)} {o : AObj} (h : IsBoard H p' q' ms') (k : IsBoard H p q ms) (hne : q' ≠ q) : IsBoard (H.put q o) p' q' ms' :=
  ⟨get_other h.box (by rintro rfl; have := h.box; rw [k.map] at this; cases this), get_other h.map hne⟩
theorem IsBoard.set {H : AHeap} {p q : Nat} {ms ms' : List (List UInt8 × Mark)} (h : IsBoard H p q ms) : IsBoard (H.put q (.smap (ents ms'))) p q ms' := ⟨get_other h.box h.ne, AHeap.get_put_same _ _ _⟩
theorem IsBoard.apart {H : AHeap} {p q q' : Nat} {ms : List (List UInt8 × Mark)} (h : IsBoard H p q ms) (hn : H.get q' = none) : q ≠ q' := by
  rintro rfl; have := h.map; rw [hn] at this; cases this

end Go.Proofs.YtpdfgmedbphmkaaDoor
