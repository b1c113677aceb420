/-
  A small logic of abstract values and owned memory over the given model, part 3. No statement of the program.
-/
import Derived.Test.YtbepggmidagbiaaAL2
/-
  AL, part zi: small helpers of contracts.
-/
set_option linter.unusedSimpArgs false
set_option linter.unusedVariables false
namespace Go.AL
open Go

theorem wrap64 {x : Int} (h : -9223372036854775808 ≤ x ∧ x < 9223372036854775808) : IntKind.i64.wrap x = x := by
  simp [IntKind.wrap, IntKind.signed, IntKind.bits]; omega
theorem wrapS {i n : Nat} (h : i < n) (hn : n ≤ 9223372036854775807) : IntKind.i64.wrap ((i : Int) + 1) = ((i + 1 : Nat) : Int) := by
  rw [wrap64 (by omega)]; omega
theorem wrapN (n : Nat) (h : n ≤ 9223372036854775807) : IntKind.i64.wrap (n : Int) = n := wrap64 (by omega)

theorem all_take {α : Type} {p : α → Bool} {l : List α} {i : Nat} {m : α} (hm : l[i]? = some m) (h : (l.take i).all p = true) : (l.take (i + 1)).all p = p m := by
  rw [List.take_add_one, hm]; simp [List.all_append, h]
theorem not_all {α : Type} {p : α → Bool} {l : List α} {i : Nat} {m : α} (hm : l[i]? = some m) (h : p m = false) : l.all p = false := by
  rw [List.all_eq_false]; exact ⟨m, List.mem_of_getElem? hm, by simp [h]⟩
theorem take_mem_succ {α : Type} {l : List α} {i : Nat} {m x : α} (hm : l[i]? = some m) (h : x ∈ l.take (i + 1)) : x ∈ l.take i ∨ x = m := by
  rw [List.take_add_one, hm, List.mem_append] at h
  simpa using h
theorem take_succ {α : Type} {l : List α} {i : Nat} {m : α} (hm : l[i]? = some m) : l.take (i + 1) = l.take i ++ [m] := by
  rw [List.take_add_one, hm]; rfl

theorem fin {K : AV → AHeap → Prop} {H : AHeap} {a b : AV} (h : K b H) (e : a = b) : K a H := e ▸ h
theorem finB {K : AV → AHeap → Prop} {H : AHeap} {a b : Bool} (h : K (.v (.bool b)) H) (e : a = b) : K (.v (.bool a)) H := e ▸ h
theorem finI {K : AV → AHeap → Prop} {H : AHeap} {k : IntKind} {a b : Int} (h : K (.v (.int k b)) H) (e : a = b) : K (.v (.int k a)) H := e ▸ h
theorem finH {K : AV → AHeap → Prop} {H H' : AHeap} {a : AV} (h : K a H) (e : H' = H) : K a H' := e ▸ h

def cmp (a b : Int) : Int := if a < b then -1 else if b < a then 1 else 0
def cmpS (x y : List UInt8) : Int := if x < y then -1 else if y < x then 1 else 0
theorem getc {l : List UInt8} {i : Nat} (h : i < l.length) : ∃ c, l[i]? = some c := ⟨_, List.getElem?_eq_getElem h⟩
theorem gete {α : Type} {l : List α} {i : Nat} (h : i < l.length) : ∃ c, l[i]? = some c := ⟨_, List.getElem?_eq_getElem h⟩
def intCells (n : Int) : List AV := [.v (.int .i64 n)]
def bytesCells (l : List UInt8) : List AV := [.s l]
theorem bytes_map (l : List (List UInt8)) : (l.map fun x => [AV.s x]) = l.map bytesCells := rfl
def firstNZ : List Int → Int
  | [] => 0
  | a :: l => if a = 0 then firstNZ l else a
theorem firstNZ_take {l : List Int} {i : Nat} {a : Int} (ha : l[i]? = some a) (h : ∀ x ∈ l.take i, x = 0) (hz : a ≠ 0) : firstNZ l = a := by
  induction l generalizing i with
  | nil => simp at ha
  | cons b l ih =>
    cases i with
    | zero => simp at ha; subst ha; simp [firstNZ, hz]
    | succ i => simp at ha h; simp [firstNZ, h.1]; exact ih ha h.2
theorem firstNZ_all {l : List Int} (h : ∀ x ∈ l, x = 0) : firstNZ l = 0 := by
  induction l with
  | nil => rfl
  | cons b l ih => simp at h; simp [firstNZ, h.1]; exact ih h.2

/-- the first place of which p holds; -1: there is none -/
def firstI {α : Type} (p : α → Bool) (l : List α) : Int := match l.findIdx? p with | some i => i | none => -1
theorem firstI_some {α : Type} {p : α → Bool} : ∀ {l : List α} {i : Nat} {a : α}, (∀ x ∈ l.take i, p x = false) → l[i]? = some a → p a = true → firstI p l = i := fun {l i a} h1 h2 h3 => by
  have : l.findIdx? p = some i := by
    rw [List.findIdx?_eq_some_iff_getElem]
    obtain ⟨hi, rfl⟩ := List.getElem?_eq_some_iff.1 h2
    refine ⟨hi, h3, fun j hj => ?_⟩
    have := h1 (l[j]'(by omega)) (by
      rw [List.mem_take_iff_getElem]
      exact ⟨j, by omega, rfl⟩)
    simp [this]
  rw [firstI, this]
theorem firstI_none {α : Type} {p : α → Bool} {l : List α} (h : ∀ x ∈ l, p x = false) : firstI p l = -1 := by
  have : l.findIdx? p = none := by rw [List.findIdx?_eq_none_iff]; exact h
  rw [firstI, this]
theorem firstI_any {α : Type} (p : α → Bool) (l : List α) : decide (0 ≤ firstI p l) = l.any p := by
  unfold firstI
  cases h : l.findIdx? p with
  | none =>
    rw [List.findIdx?_eq_none_iff] at h
    have : l.any p = false := by rw [List.any_eq_false]; intro x hx; simp [h x hx]
    rw [this]; decide
  | some i =>
    rw [List.findIdx?_eq_some_iff_getElem] at h
    obtain ⟨hi, hp, _⟩ := h
    have : l.any p = true := List.any_eq_true.2 ⟨_, List.getElem_mem hi, hp⟩
    rw [this]; simp
theorem Ext.del {H H' : AHeap} {b : Nat} (h : Ext H H') (hb : H.get b = none) : Ext H (H'.del b) := fun c o hc => by
  rw [AHeap.get_del, if_neg (by rintro rfl; rw [hb] at hc; cases hc)]; exact h c o hc
theorem RowAt.toGr {e sz : Nat} {H L : AHeap} {es : List (List AV)} {a : AV} (h : RowAt e sz H L es a) (hE : Ext H L) : ∃ L0, Ext H L0 ∧ Gr e sz L0 es a L := by
  rcases h with ⟨rfl, rfl⟩ | ⟨b, h1, rfl, h3⟩
  · exact ⟨L, hE, .inl ⟨rfl, rfl, rfl⟩⟩
  · refine ⟨L.del b, hE.del h1, .inr ⟨b, ?_, rfl, ?_⟩⟩
    · rw [AHeap.get_del, if_pos rfl]
    · funext c
      simp only [AHeap.put, AHeap.del]
      split
      · rename_i e1; subst e1; exact h3
      · rfl
/-- what grew is frozen, ahead of what follows, beside other rows -/
theorem AWp_gr2 {X : Ctx} {N : NR} {c : Code} {Q : Exit → AFr → AHeap → Prop} {e sz t : Nat} {H0 H : AHeap} {es : List (List AV)} {a : AV} {fr : AFr} (hg : Gr e sz H0 es a H) (hs : ∀ b, H0.get b = none → AFr.snap b sz es fr = fr) (h : AWp X N c Q ((t, .sl false es) :: fr) H0) : AWp X N c Q ((t, a) :: fr) H := by
  rcases hg with ⟨rfl, rfl, rfl⟩ | ⟨b, hb, rfl, rfl⟩
  · refine AWp_weaken h (fun F S x hx d => ?_) (fun _ _ h => h)
    have := hx d
    simp only [AFr.get] at this ⊢
    split
    · rename_i e; rw [if_pos e] at this; exact this.loose_sl
    · rename_i e; rw [if_neg e] at this; exact this
  · refine AWp.snap (AHeap.get_put_same b _ _) ?_
    have e1 : AFr.snap b sz es ((t, .row b sz es.length) :: fr) = (t, .sl false es) :: fr := by
      simp only [AFr.snap, AV.snap, if_true, Nat.le_refl, and_self, List.take_length, hs b hb]
    rw [e1, AHeap.put_put]
    exact AWp.drop (Ext.fresh hb) h
/-- s is a tight slice of es, or a row of them -/
def HeldAt (e sz : Nat) (L : AHeap) (es : List (List AV)) (s : AV) : Prop := s = .sl true es ∨ ∃ b, s = .row b sz es.length ∧ L.get b = some (.row e sz false es)
/-- all but the row s -/
def Besides (sz n : Nat) (s : AV) (L L' : AHeap) : Prop := ∀ c o, L.get c = some o → (∀ b, s = .row b sz n → c ≠ b) → L'.get c = some o
theorem AApp_push {X : Ctx} {L : AHeap} {T e xT : TypeId} {sz by_ : Nat} {es nes : List (List AV)} {s x : AV} {K : AV → AHeap → Prop} (hT : elT X.P T = some (e, sz, by_)) (hs : HeldAt e sz L es s) (hes : ∀ c ∈ es, c.length = sz)
    (hx : ∀ M : AHeap, srcV X.P M sz xT x = some nes) (hne : nes ≠ []) (hby : (es.length + nes.length) * by_ ≤ 140737488355328) (h63 : es.length + nes.length ≤ 9223372036854775807)
    (hK : ∀ b' L', L'.get b' = some (.row e sz false (es ++ nes)) → (∀ c o, L.get c = some o → (∀ b, s = .row b sz es.length → c ≠ b) → L'.get c = some o ∧ c ≠ b') → K (.row b' sz (es ++ nes).length) L') : AApp X T xT s x L K := by
  rcases hs with rfl | ⟨b, rfl, hb⟩
  · refine AApp_tight hT hes (hx L) hby h63 (fun h => absurd h hne) (fun _ b' hb' => ?_)
    rw [← List.length_append]
    refine hK b' _ (AHeap.get_put_same _ _ _) (fun c o hc _ => ?_)
    have hcb : c ≠ b' := by rintro rfl; rw [hc] at hb'; cases hb'
    exact ⟨by rw [AHeap.get_put, if_neg hcb]; exact hc, hcb⟩
  · refine AApp_row hT hb rfl (hx L) hby h63 (fun b' hb' => ?_)
    rw [← List.length_append]
    refine hK b' _ (AHeap.get_put_same _ _ _) (fun c o hc hne => ?_)
    have hcb := hne b rfl
    have hd : (L.del b).get c = some o := by rw [AHeap.get_del, if_neg hcb]; exact hc
    have hcb' : c ≠ b' := by rintro rfl; rw [hd] at hb'; cases hb'
    exact ⟨by rw [AHeap.get_put, if_neg hcb']; exact hd, hcb'⟩

/-- a variable that holds a slice, or a row of one's own: it is frozen where it is one; all else stays -/
theorem AWp_boxed2 {X : Ctx} {N : NR} {c : Code} {Q : Exit → AFr → AHeap → Prop} {fr : AFr} {p e sz : Nat} {T2 : TypeId} {M : AHeap} {s : AV} {es : List (List AV)} (hfr : ∀ b, s = .row b sz es.length → AFr.snap b sz es fr = fr)
    (hs : HeldAt e sz M es s) (hp : M.get p = some (.box T2 [s]))
    (h : ∀ tl M', M'.get p = some (.box T2 [.sl tl es]) → (∀ d o, d ≠ p → (∀ b, s = .row b sz es.length → d ≠ b) → M.get d = some o → M'.get d = some o) → AWp X N c Q fr M') : AWp X N c Q fr M := by
  rcases hs with rfl | ⟨b, rfl, hb⟩
  · exact h true M hp (fun d o _ _ hd => hd)
  · have hpb : p ≠ b := by rintro rfl; rw [hb] at hp; cases hp
    refine AWp.snapBox hb hp ?_
    rw [hfr b rfl]
    simp only [AV.snaps, AV.snap, if_true, Nat.le_refl, and_self, List.take_length]
    refine h false _ (AHeap.get_put_same _ _ _) (fun d o hdp hdb hd => ?_)
    rw [AHeap.get_put, if_neg hdp, AHeap.get_put, if_neg (hdb b rfl)]
    exact hd

/-- what grew in a call may be handed back, in a pair, as a slice that is never written again -/
theorem ACall.grP {X : Ctx} {H : AHeap} {f : FuncId} {xs : List AV} {e sz : Nat} {es : List (List AV)} {y : Value} {K : AV → AHeap → Prop} (hk : K (.tup [.sl false es, .v y]) H)
    (h : ACall X f xs H fun a L => ∃ L0 a1, a = .tup [a1, .v y] ∧ Ext H L0 ∧ Gr e sz L0 es a1 L) : ACall X f xs H K :=
  ACall.post ⟨h.1, fun w φ ys hr hx => (h.2 w φ ys hr hx).mono fun e' w' ⟨v, av, L, φ', e1, h1, ⟨L0, a1, he, h2, h3⟩, h4⟩ => by
    subst he
    rcases h3 with ⟨rfl, rfl, rfl⟩ | ⟨b, hb, rfl, rfl⟩
    · refine ⟨v, .tup [.sl false [], .v y], L, φ', e1, ?_, ⟨_, H, Snap.drop h2, hk⟩, h4⟩
      cases h1 with
      | tup h => cases h with
        | cons h hs => exact .tup (.cons h.loose_sl hs)
    · refine ⟨v, _, _, φ', e1, h1, ?_, h4⟩
      have h5 := Snap.row (X := X) (as := [.tup [.row b sz es.length, .v y]]) (AHeap.get_put_same b (.row e sz false es) L0)
      simp only [AV.snaps, AV.snap] at h5
      rw [if_pos trivial, if_pos ⟨trivial, Nat.le_refl _⟩, List.take_length] at h5
      exact ⟨_, H, h5.trans (Snap.drop (by rw [AHeap.put_put]; exact Ext.put h2 hb)), hk⟩⟩
theorem kfind_kput {κ : Type} [DecidableEq κ] (k k' : κ) (a : AV) : ∀ es : List (κ × AV), kfind k (kput k' a es) = if k' = k then some a else kfind k es
  | [] => by simp only [kput, kfind]
  | p :: es => by
    have ih := kfind_kput k k' a es
    simp only [kput]
    by_cases h : p.1 = k'
    · rw [if_pos h]
      simp only [kfind]
      by_cases h2 : k' = k
      · rw [if_pos h2, if_pos h2]
      · rw [if_neg h2, if_neg h2, if_neg (by rw [h]; exact h2)]
    · rw [if_neg h]
      simp only [kfind, ih]
      by_cases h2 : p.1 = k
      · rw [if_pos h2, if_pos h2, if_neg (by rintro rfl; exact h h2)]
      · rw [if_neg h2, if_neg h2]
theorem HeldAt.put {e sz c : Nat} {L : AHeap} {es : List (List AV)} {s : AV} {o o' : AObj} (h : HeldAt e sz L es s) (hc : L.get c = some o) (ho : ∀ sz sn es, o ≠ .row e sz sn es) : HeldAt e sz (L.put c o') es s := by
  rcases h with h | ⟨b, h1, h2⟩
  · exact .inl h
  · refine .inr ⟨b, h1, ?_⟩
    rw [AHeap.get_put, if_neg]
    · exact h2
    · rintro rfl; rw [h2] at hc; cases hc; exact ho _ _ _ rfl
theorem HeldAt.fresh {e sz c : Nat} {L : AHeap} {es : List (List AV)} {s : AV} {o' : AObj} (h : HeldAt e sz L es s) (hc : L.get c = none) : HeldAt e sz (L.put c o') es s := by
  rcases h with h | ⟨b, h1, h2⟩
  · exact .inl h
  · exact .inr ⟨b, h1, get_fresh h2 hc⟩
theorem HeldAt.del {e sz c : Nat} {L : AHeap} {es : List (List AV)} {s : AV} {o : AObj} (h : HeldAt e sz L es s) (hc : L.get c = some o) (ho : ∀ sz sn es, o ≠ .row e sz sn es) : HeldAt e sz (L.del c) es s := by
  rcases h with h | ⟨b, h1, h2⟩
  · exact .inl h
  · refine .inr ⟨b, h1, ?_⟩
    rw [AHeap.get_del, if_neg]
    · exact h2
    · rintro rfl; rw [h2] at hc; cases hc; exact ho _ _ _ rfl
theorem RowAt.del {e sz c : Nat} {H L : AHeap} {es : List (List AV)} {s : AV} {o : AObj} (h : RowAt e sz H L es s) (hc : L.get c = some o) (ho : ∀ sz sn es, o ≠ .row e sz sn es) : RowAt e sz H (L.del c) es s := by
  rcases h with h | ⟨b, h1, h2, h3⟩
  · exact .inl h
  · refine .inr ⟨b, h1, h2, ?_⟩
    rw [AHeap.get_del, if_neg]
    · exact h3
    · rintro rfl; rw [h3] at hc; cases hc; exact ho _ _ _ rfl
theorem rowAt_len {e sz e' : Nat} {s' : Option Nat} {H0 L : AHeap} {es : List (List AV)} {a : AV} (h : RowAt e sz H0 L es a) (M : AHeap) : lenK M (.sl e' s') a = some (.v (.int .i64 es.length)) := by
  rcases h with ⟨rfl, rfl⟩ | ⟨b, _, rfl, _⟩ <;> rfl
theorem held_len {e sz e' : Nat} {s' : Option Nat} {L : AHeap} {es : List (List AV)} {a : AV} (h : HeldAt e sz L es a) (M : AHeap) : lenK M (.sl e' s') a = some (.v (.int .i64 es.length)) := by
  rcases h with rfl | ⟨b, rfl, _⟩ <;> rfl
theorem get_ne_fresh {H : AHeap} {b c : Nat} {o : AObj} (h : H.get b = some o) (hc : H.get c = none) : b ≠ c := by rintro rfl; rw [h] at hc; cases hc

theorem decode_ascii {l : List UInt8} {i : Nat} {c : UInt8} (h : l[i]? = some c) (hc : c.toNat < 128) : Utf8.decode ⟨⟨l⟩⟩ i = (c.toNat, 1) := by
  have hi := (List.getElem?_eq_some_iff.1 h).1
  have hb : (⟨⟨l⟩⟩ : ByteArray).get! (i + 0) = c := by
    rw [Nat.add_zero]
    simp only [ByteArray.get!]
    simp [h]
  unfold Utf8.decode
  simp only [hb]
  rw [if_pos hc]
theorem decode_big {l : List UInt8} {i : Nat} {c : UInt8} (h : l[i]? = some c) (hc : 128 ≤ c.toNat) : 128 ≤ (Utf8.decode ⟨⟨l⟩⟩ i).1 := by
  have hi := (List.getElem?_eq_some_iff.1 h).1
  have hb : (⟨⟨l⟩⟩ : ByteArray).get! (i + 0) = c := by
    rw [Nat.add_zero]
    simp only [ByteArray.get!]
    simp [h]
  unfold Utf8.decode
  simp only [hb]
  rw [if_neg (by omega)]
  split
  · split <;> first | (simp only; omega) | (simp [Utf8.runeError])
  · split
    · split
      · rename_i h; simp only [Bool.and_eq_true, decide_eq_true_eq] at h; simp only; omega
      · simp [Utf8.runeError]
    · split
      · split
        · rename_i h; simp only [Bool.and_eq_true, decide_eq_true_eq] at h; simp only; omega
        · simp [Utf8.runeError]
      · simp [Utf8.runeError]

/-- strings are ordered in one way -/
theorem lt_tri (a b : List UInt8) : a < b ∨ a = b ∨ b < a := by
  rcases Classical.em (a < b) with h | h
  · exact .inl h
  · rcases Classical.em (b < a) with h2 | h2
    · exact .inr (.inr h2)
    · exact .inr (.inl (List.le_antisymm (List.not_lt.1 h2) (List.not_lt.1 h)))
theorem lt_irr (a : List UInt8) : ¬ a < a := List.lt_irrefl a
theorem lt_tr {a b c : List UInt8} (h : a < b) (k : b < c) : a < c := List.lt_trans h k
theorem cmpS_lt {a b : List UInt8} : cmpS a b < 0 ↔ a < b := by
  unfold cmpS
  split
  · simp [*]
  · split <;> simp [*]
theorem cmpS_zero {a b : List UInt8} : cmpS a b = 0 ↔ a = b := by
  unfold cmpS
  rcases lt_tri a b with h | h | h
  · simp [h]; rintro rfl; exact lt_irr _ h
  · subst h; simp [lt_irr]
  · have : ¬ a < b := fun k => lt_irr _ (lt_tr h k)
    simp [h, this]; rintro rfl; exact lt_irr _ h
theorem cmp_lt {a b : Int} : cmp a b < 0 ↔ a < b := by unfold cmp; split <;> (try split) <;> omega
theorem cmp_zero {a b : Int} : cmp a b = 0 ↔ a = b := by unfold cmp; split <;> (try split) <;> omega

section
variable {X : Ctx} {N : NR} {d : Nat} {H : AHeap} {fr : AFr} {ops : Array Oper} {rest : List Oper} {K : AFr → AHeap → Prop} {ty : TypeId} {pos : String} {aft : Array Edge}
theorem s_op {op : Op} (hd : d < N.n) (hp : isPick op = false) (h : AOp X H fr.ev op fun av H' => SOps X N ops rest K ((d, av) :: fr) H') : SOps X N ops (⟨some d, op, ty, pos, aft, none⟩ :: rest) K fr H :=
  s_cons (AOps_op (by simpa [dstOk] using hd) hp (AOp_mono (fun _ _ h => st_nil h) h))
theorem s_rangeS {T : TypeId} {x : Operand} {l : List UInt8} (hd : d < N.n) (hT : X.P.underlying T = some .string) (hx : fr.ev x = .s l) (k : ∀ r, H.get r = none → SOps X N ops rest K ((d, ptrTo r) :: fr) (H.put r (.siter l 0))) :
    SOps X N ops (⟨some d, .range T x, ty, pos, aft, none⟩ :: rest) K fr H := s_op hd rfl (by simp only [AOp, rangeV, hT, hx]; exact k)
theorem s_rangeM {T kt et : TypeId} {x : Operand} {m : Nat} {es : List (List UInt8 × AV)} (hd : d < N.n) (hT : X.P.underlying T = some (.map kt et)) (hx : fr.ev x = .v (.map (some m))) (hm : H.get m = some (.smap es))
    (k : ∀ ents clock r, ents.size = es.length → H.get r = none → SOps X N ops rest K ((d, ptrTo r) :: fr) ((H.put m (.kmap ents clock (es.map fun p => .s p.1) (es.map (·.2)))).put r (.walk m ents clock []))) :
    SOps X N ops (⟨some d, .range T x, ty, pos, aft, none⟩ :: rest) K fr H := s_op hd rfl (by simp only [AOp, rangeV, hT, hx, hm]; exact k)
theorem s_rangeI {T kt et : TypeId} {x : Operand} {m : Nat} {ik : IntKind} {es : List (Int × AV)} (hd : d < N.n) (hT : X.P.underlying T = some (.map kt et)) (hx : fr.ev x = .v (.map (some m))) (hm : H.get m = some (.imap ik es))
    (k : ∀ ents clock r, ents.size = es.length → H.get r = none → SOps X N ops rest K ((d, ptrTo r) :: fr) ((H.put m (.kmap ents clock (es.map fun p => .v (.int ik p.1)) (es.map (·.2)))).put r (.walk m ents clock []))) :
    SOps X N ops (⟨some d, .range T x, ty, pos, aft, none⟩ :: rest) K fr H := s_op hd rfl (by simp only [AOp, rangeV, hT, hx, hm]; exact k)
theorem s_nextS {x : Operand} {r p : Nat} {l : List UInt8} (hd : d < N.n) (hx : fr.ev x = ptrTo r) (hr : H.get r = some (.siter l p))
    (k1 : p < l.length → SOps X N ops rest K ((d, .tup [.v (.bool true), .v (.int .i64 (p : Int)), .v (.int .i32 (Utf8.decode ⟨⟨l⟩⟩ p).1)]) :: fr) (H.put r (.siter l (p + (Utf8.decode ⟨⟨l⟩⟩ p).2))))
    (k2 : ¬ p < l.length → SOps X N ops rest K ((d, .tup [.v (.bool false)]) :: fr) H) : SOps X N ops (⟨some d, .next x true, ty, pos, aft, none⟩ :: rest) K fr H :=
  s_op hd rfl (by
    simp only [AOp, nextV, hx, ptrTo, hr]
    split
    · exact k1 ‹_›
    · exact k2 ‹_›)
theorem s_nextM {x : Operand} {r m clock : Nat} {ents : Array MapEntry} {is : List Nat} {ks vs : List AV} (hd : d < N.n) (hx : fr.ev x = ptrTo r) (hr : H.get r = some (.walk m ents clock is)) (hm : H.get m = some (.kmap ents clock ks vs)) (hin : ∀ i ∈ is, i < ents.size)
    (k1 : (∀ i, i < ents.size → i ∈ is) → SOps X N ops rest K ((d, .tup [.v (.bool false)]) :: fr) H)
    (k2 : ∀ i k x, i ∉ is → ks[i]? = some k → vs[i]? = some x → SOps X N ops rest K ((d, .tup [.v (.bool true), k, x]) :: fr) (H.put r (.walk m ents clock (is ++ [i])))) : SOps X N ops (⟨some d, .next x false, ty, pos, aft, none⟩ :: rest) K fr H :=
  s_op hd rfl (by simp only [AOp, nextV, hx, ptrTo, hr, hm]; exact ⟨trivial, trivial, hin, k1, k2⟩)
theorem s_entryM {x : Operand} {r m clock i : Nat} {ents : Array MapEntry} {is : List Nat} {ks vs : List AV} {k v : AV} (hd : d < N.n) (hx : fr.ev x = ptrTo r) (hr : H.get r = some (.walk m ents clock (is ++ [i]))) (hm : H.get m = some (.kmap ents clock ks vs)) (hk : ks[i]? = some k) (hv : vs[i]? = some v)
    (h : SOps X N ops rest K ((d, .tup [k, v]) :: fr) H) : SOps X N ops (⟨some d, .entry x, ty, pos, aft, none⟩ :: rest) K fr H :=
  s_op hd rfl (by simp only [AOp, entryV, hx, ptrTo, hr, hm, List.getLast?_append, List.getLast?_singleton, Option.some_or, hk, hv]; exact ⟨trivial, trivial, h⟩)
theorem s_yield {f : Operand} {args : Array Operand} {ats : Array TypeId} {l : Nat} {first as : List AV} (hd : d < N.n) (hf : fr.ev f = .fn (.yield l) first []) (ha : first ++ args.toList.map fr.ev = as)
    (k : AYield X l as H fun av H' => SOps X N ops rest K ((d, av) :: fr) H') : SOps X N ops (⟨some d, .call ⟨.value f, args, ats⟩, ty, pos, aft, none⟩ :: rest) K fr H :=
  s_op hd rfl (by subst ha; simp only [AOp, callV, hf]; exact k)
/-- a map that was walked through is a map again -/
theorem AWp.unwalk {c : Code} {Q : Exit → AFr → AHeap → Prop} {m clock : Nat} {ents : Array MapEntry} {ks vs : List AV} {a' : AObj} (hm : H.get m = some (.kmap ents clock ks vs)) (ha : ∀ w φ, OM w φ m ks vs → OR w φ m a') (h : AWp X N c Q fr (H.put m a')) : AWp X N c Q fr H :=
  fun a w φ H0 w0 φ0 hf hd hr ho => by
    obtain ⟨h1, h2, h3, h4, h5⟩ := hr.obj m _ hm
    have o := Out.retell hr hm (ha w φ ⟨h1, ents, clock, h2, h3, h4, h5⟩)
    exact h a w φ H0 w0 φ0 hf (hd.out o) o.rel (ho.trans o)
end
end Go.AL
