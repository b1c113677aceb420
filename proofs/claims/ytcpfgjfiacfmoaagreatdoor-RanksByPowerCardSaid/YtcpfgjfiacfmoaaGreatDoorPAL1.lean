/-
  A small logic of abstract values and owned memory over the given model, part 1. No statement of the program.
-/
import Derived.WalkKit
import Derived.MapKept
import Derived.Lib.Bytes
import Derived.Laws.StructEq
import Derived.Laws.Append
import Derived.Laws.AppendOwn
import Derived.CallsIn
import Derived.RangeFuncLeaves
import Derived.Maps.RangeRun
import Derived.OrdersIn
import Derived.TacticsIn
import Derived.IntWalk
/-
  AL, part a: abstract values, the relation between abstract states and worlds. No program text.
-/
namespace Go.AL
open Go

inductive AV where
  | v (x : Value)
  | s (l : List UInt8)
  | agg (cs : List AV)
  | tup (vs : List AV)
  | sl (tight : Bool) (es : List (List AV))
  | fp (cs : List AV)
  | row (b sz n : Nat)
  | rp (b sz i o : Nat)
  | vw (b sz off n : Nat)
  | fn (f : Fn) (first captured : List AV)
  | ifc (t : TypeId) (x : AV)
  | whn (c : Bool) (x : AV)
  | top
  deriving Inhabited

mutual
inductive VR (F : Addr → Value → Prop) (S : Nat → Nat → Prop) : Value → AV → Prop
  | v (x : Value) : VR F S x (.v x)
  | s (b : ByteArray) : VR F S (.string b) (.s b.data.toList)
  | agg {vs : List Value} {cs : List AV} (h : VRs F S vs cs) : VR F S (.agg ⟨vs⟩) (.agg cs)
  | tup {vs : List Value} {cs : List AV} (h : VRs F S vs cs) : VR F S (.tuple ⟨vs⟩) (.tup cs)
  | slnil (t : Bool) : VR F S (.slice none 0 0) (.sl t [])
  | sl {ad : Addr} {sz cap : Nat} {t : Bool} {es : List (List AV)} (h : ERs F S ad sz 0 es) (hc : es.length ≤ cap)
      (ht : t = true → cap = es.length) : VR F S (.slice (some ad) es.length cap) (.sl t es)
  | fp {ad : Addr} {cs : List AV} (h : CRs F S ad 0 cs) : VR F S (.pointer (some ad)) (.fp cs)
  | row {b sz n cap size : Nat} (hs : S b size) (hc : size = cap * sz) (hn : n ≤ cap) : VR F S (.slice (some ⟨b, 0, none⟩) n cap) (.row b sz n)
  | rp {b sz i o : Nat} : VR F S (.pointer (some ⟨b, i * sz + o, none⟩)) (.rp b sz i o)
  | vw {b sz off n cap size p : Nat} (hs : S b size) (hc : size = (off + cap) * sz) (hn : n ≤ cap) (hp : 0 < cap → p = off * sz) : VR F S (.slice (some ⟨b, p, none⟩) n cap) (.vw b sz off n)
  | fn {f : Fn} {vs us : List Value} {as bs : List AV} (h : VRs F S vs as) (h' : VRs F S us bs) : VR F S (.func f ⟨vs⟩ ⟨us⟩) (.fn f as bs)
  | ifc {t : TypeId} {x : Value} {a : AV} (h : VR F S x a) : VR F S (.iface t x) (.ifc t a)
  | whnT {x : Value} {a : AV} (h : VR F S x a) : VR F S x (.whn true a)
  | whnF (a : AV) : VR F S undef (.whn false a)
  | top (x : Value) : VR F S x .top
inductive VRs (F : Addr → Value → Prop) (S : Nat → Nat → Prop) : List Value → List AV → Prop
  | nil : VRs F S [] []
  | cons {x : Value} {a : AV} {xs : List Value} {as : List AV} (h : VR F S x a) (hs : VRs F S xs as) : VRs F S (x :: xs) (a :: as)
inductive CRs (F : Addr → Value → Prop) (S : Nat → Nat → Prop) : Addr → Nat → List AV → Prop
  | nil {ad : Addr} {j : Nat} : CRs F S ad j []
  | cons {ad : Addr} {j : Nat} {u : Value} {a : AV} {as : List AV} (h : F (ad.add j) u) (hv : VR F S u a) (hs : CRs F S ad (j + 1) as) : CRs F S ad j (a :: as)
inductive ERs (F : Addr → Value → Prop) (S : Nat → Nat → Prop) : Addr → Nat → Nat → List (List AV) → Prop
  | nil {ad : Addr} {sz i : Nat} : ERs F S ad sz i []
  | cons {ad : Addr} {sz i : Nat} {e : List AV} {es : List (List AV)} (hl : e.length = sz) (hc : CRs F S ad (i * sz) e) (hs : ERs F S ad sz (i + 1) es) : ERs F S ad sz i (e :: es)
end

section mono
variable {F F' : Addr → Value → Prop} {S S' : Nat → Nat → Prop}
mutual
theorem VR.mono' (hF : ∀ a u, F a u → F' a u) (hS : ∀ b n, S b n → S' b n) {x : Value} {a : AV} : VR F S x a → VR F' S' x a
  | .v x => .v x
  | .s b => .s b
  | .agg h => .agg (VRs.mono' hF hS h)
  | .tup h => .tup (VRs.mono' hF hS h)
  | .slnil t => .slnil t
  | .sl h hc ht => .sl (ERs.mono' hF hS h) hc ht
  | .fp h => .fp (CRs.mono' hF hS h)
  | .row hs hc hn => .row (hS _ _ hs) hc hn
  | .rp => .rp
  | .vw hs hc hn hp => .vw (hS _ _ hs) hc hn hp
  | .fn h h' => .fn (VRs.mono' hF hS h) (VRs.mono' hF hS h')
  | .ifc h => .ifc (VR.mono' hF hS h)
  | .whnT h => .whnT (VR.mono' hF hS h)
  | .whnF a => .whnF a
  | .top x => .top x
theorem VRs.mono' (hF : ∀ a u, F a u → F' a u) (hS : ∀ b n, S b n → S' b n) {xs : List Value} {as : List AV} : VRs F S xs as → VRs F' S' xs as
  | .nil => .nil
  | .cons h hs => .cons (VR.mono' hF hS h) (VRs.mono' hF hS hs)
theorem CRs.mono' (hF : ∀ a u, F a u → F' a u) (hS : ∀ b n, S b n → S' b n) {ad : Addr} {j : Nat} {as : List AV} : CRs F S ad j as → CRs F' S' ad j as
  | .nil => .nil
  | .cons h hv hs => .cons (hF _ _ h) (VR.mono' hF hS hv) (CRs.mono' hF hS hs)
theorem ERs.mono' (hF : ∀ a u, F a u → F' a u) (hS : ∀ b n, S b n → S' b n) {ad : Addr} {sz i : Nat} {es : List (List AV)} : ERs F S ad sz i es → ERs F' S' ad sz i es
  | .nil => .nil
  | .cons hl hc hs => .cons hl (CRs.mono' hF hS hc) (ERs.mono' hF hS hs)
end
theorem VR.mono {x : Value} {a : AV} (h : VR F S x a) (hF : ∀ a u, F a u → F' a u) (hS : ∀ b n, S b n → S' b n) : VR F' S' x a := VR.mono' hF hS h
theorem VRs.mono {x : List Value} {a : List AV} (h : VRs F S x a) (hF : ∀ a u, F a u → F' a u) (hS : ∀ b n, S b n → S' b n) : VRs F' S' x a := VRs.mono' hF hS h
theorem CRs.mono {ad : Addr} {j : Nat} {a : List AV} (h : CRs F S ad j a) (hF : ∀ a u, F a u → F' a u) (hS : ∀ b n, S b n → S' b n) : CRs F' S' ad j a := CRs.mono' hF hS h
theorem ERs.mono {ad : Addr} {sz i : Nat} {a : List (List AV)} (h : ERs F S ad sz i a) (hF : ∀ a u, F a u → F' a u) (hS : ∀ b n, S b n → S' b n) : ERs F' S' ad sz i a := ERs.mono' hF hS h
end mono

structure NR where
  n : Nat
  ro : Option Nat

abbrev AFr := List (Nat × AV)
def AFr.get (t : Nat) : AFr → AV
  | [] => .top
  | (d, a) :: r => if d = t then a else AFr.get t r

inductive AObj where
  | box (T : TypeId) (cs : List AV)
  | row (T : TypeId) (sz : Nat) (snap : Bool) (es : List (List AV))
  | smap (es : List (List UInt8 × AV))
  | imap (k : IntKind) (es : List (Int × AV))
  | loop (sz : Nat) (fr : AFr) (ps : Array Tmp) (assign body : Code) (st : LoopState) (pe : Option Code)
  | kmap (ents : Array MapEntry) (clock : Nat) (ks vs : List AV)
  | walk (m : Nat) (ents : Array MapEntry) (clock : Nat) (is : List Nat)
  | siter (s : List UInt8) (pos : Nat)
  deriving Inhabited

abbrev AHeap := Nat → Option AObj
def AHeap.get (b : Nat) (H : AHeap) : Option AObj := H b
def AHeap.nil : AHeap := fun _ => none
def AHeap.put (b : Nat) (o : AObj) (H : AHeap) : AHeap := fun c => if c = b then some o else H c
def AHeap.del (b : Nat) (H : AHeap) : AHeap := fun c => if c = b then none else H c

theorem AHeap.get_put (b c : Nat) (o : AObj) (H : AHeap) : AHeap.get c (AHeap.put b o H) = if c = b then some o else AHeap.get c H := rfl
theorem AHeap.get_del (b c : Nat) (H : AHeap) : AHeap.get c (AHeap.del b H) = if c = b then none else AHeap.get c H := rfl
theorem AHeap.get_put_same (b : Nat) (o : AObj) (H : AHeap) : AHeap.get b (AHeap.put b o H) = some o := by simp [AHeap.get, AHeap.put]
theorem AHeap.put_put (b : Nat) (o o' : AObj) (H : AHeap) : AHeap.put b o (AHeap.put b o' H) = AHeap.put b o H := by
  funext c; simp only [AHeap.put]; split <;> rfl
theorem AHeap.put_comm {b c : Nat} (h : b ≠ c) (o o' : AObj) (H : AHeap) : AHeap.put b o (AHeap.put c o' H) = AHeap.put c o' (AHeap.put b o H) := by
  funext d; simp only [AHeap.put]
  by_cases h1 : d = b
  · subst h1; simp [h]
  · simp [h1]
def Fz (w : World) (φ : Nat → Nat) (ad : Addr) (u : Value) : Prop := w.cell? ad = some u ∧ ad.off < φ ad.block
def Sh (w : World) (b n : Nat) : Prop := ∃ arr T fr, w.heap[b]? = some (.cells arr T fr) ∧ arr.size = n

def OM (w : World) (φ : Nat → Nat) (b : Nat) (keys vals : List AV) : Prop :=
  φ b = 0 ∧ ∃ ents clock, w.heap[b]? = some (.map ents clock) ∧ VRs (Fz w φ) (Sh w) (ents.toList.map (·.key)) keys ∧ VRs (Fz w φ) (Sh w) (ents.toList.map (·.val)) vals ∧ MapKept.Stamped ents clock

def OR (w : World) (φ : Nat → Nat) (b : Nat) : AObj → Prop
  | .box T cs => φ b = 0 ∧ ∃ arr, w.heap[b]? = some (.cells arr T (0, 0)) ∧ VRs (Fz w φ) (Sh w) arr.toList cs
  | .row T sz snap es => φ b ≤ (if snap then es.length * sz else 0) ∧ (∀ e, e ∈ es → e.length = sz) ∧
      ∃ arr vs rest, w.heap[b]? = some (.cells arr T (0, 0)) ∧ arr.toList = vs ++ rest ∧ VRs (Fz w φ) (Sh w) vs es.flatten ∧ arr.size ≤ 9223372036854775807 * sz
  | .smap es => OM w φ b (es.map fun p => .s p.1) (es.map (·.2))
  | .imap k es => OM w φ b (es.map fun p => .v (.int k p.1)) (es.map (·.2))
  | .loop sz fr ps assign body st pe => φ b = 0 ∧ ∃ tmps fn D, w.heap[b]? = some (.loop { state := st, pending := pe, fn, tmps, params := ps, assign, body, defers := D }) ∧ tmps.size = sz ∧
      ∀ t, VR (Fz w φ) (Sh w) (tmps.getD t undef) (AFr.get t fr)
  | .kmap ents clock ks vs => φ b = 0 ∧ w.heap[b]? = some (.map ents clock) ∧ VRs (Fz w φ) (Sh w) (ents.toList.map (·.key)) ks ∧ VRs (Fz w φ) (Sh w) (ents.toList.map (·.val)) vs ∧ MapKept.Stamped ents clock
  | .walk m ents clock is => φ b = 0 ∧ w.heap[b]? = some (.mapIter (some m) clock (is.map fun i => (ents.getD i default).born).toArray clock)
  | .siter s pos => φ b = 0 ∧ w.heap[b]? = some (.stringIter ⟨⟨s⟩⟩ pos)

structure Ctx where
  P : Program
  Γ : (Addr → Value → Prop) → Prop
  mono : ∀ F F', (∀ a u, F a u → F' a u) → Γ F → Γ F'
  D : Prop

def Ctx.dr (X : Ctx) : Ctx := ⟨X.P, X.Γ, X.mono, True⟩
theorem dr_P (X : Ctx) : X.dr.P = X.P := rfl

structure Rel (X : Ctx) (w : World) (φ : Nat → Nat) (H : AHeap) : Prop where
  obj : ∀ b o, H.get b = some o → OR w φ b o
  lim : ∀ b, w.heap.size ≤ b → φ b = 0
  env : X.Γ (Fz w φ)

structure Step (H : AHeap) (w : World) (φ : Nat → Nat) (w' : World) (φ' : Nat → Nat) : Prop where
  os : w'.os = w.os
  tape : w'.tape = w.tape
  output : w'.output = w.output
  size : w.heap.size ≤ w'.heap.size
  fz : ∀ ad u, Fz w φ ad u → Fz w' φ' ad u
  sh : ∀ b n, Sh w b n → Sh w' b n
  un : ∀ b, b < w.heap.size → H.get b = none → w'.heap[b]? = w.heap[b]? ∧ φ' b = φ b

structure Out (X : Ctx) (H : AHeap) (w : World) (φ : Nat → Nat) (H' : AHeap) (w' : World) (φ' : Nat → Nat) : Prop where
  step : Step H w φ w' φ'
  rel : Rel X w' φ' H'
  dom : ∀ b, H'.get b ≠ none → H.get b ≠ none ∨ w.heap.size ≤ b
  drawn : X.D → w.drawn ≤ w'.drawn

theorem OR.lt {w : World} {φ : Nat → Nat} {b : Nat} {o : AObj} (h : OR w φ b o) : b < w.heap.size := by
  cases o with
  | box T cs => obtain ⟨_, _, h, _⟩ := h; exact (Array.getElem?_eq_some_iff.1 h).1
  | row T sz sn es => obtain ⟨_, _, _, _, _, h, _⟩ := h; exact (Array.getElem?_eq_some_iff.1 h).1
  | smap es => obtain ⟨_, _, _, h, _⟩ := h; exact (Array.getElem?_eq_some_iff.1 h).1
  | imap k es => obtain ⟨_, _, _, h, _⟩ := h; exact (Array.getElem?_eq_some_iff.1 h).1
  | loop sz fr ps as bd st pe => obtain ⟨_, _, _, _, h, _⟩ := h; exact (Array.getElem?_eq_some_iff.1 h).1
  | kmap en cl ks vs => obtain ⟨_, h, _⟩ := h; exact (Array.getElem?_eq_some_iff.1 h).1
  | walk m en cl is => obtain ⟨_, h⟩ := h; exact (Array.getElem?_eq_some_iff.1 h).1
  | siter s pos => obtain ⟨_, h⟩ := h; exact (Array.getElem?_eq_some_iff.1 h).1

theorem Rel.lt {X : Ctx} {w : World} {φ : Nat → Nat} {H : AHeap} (h : Rel X w φ H) {b : Nat} {o : AObj} (hb : H.get b = some o) : b < w.heap.size := (h.obj b o hb).lt
theorem Rel.none {X : Ctx} {w : World} {φ : Nat → Nat} {H : AHeap} (h : Rel X w φ H) {b : Nat} (hb : w.heap.size ≤ b) : H.get b = none := by
  cases e : H.get b with
  | none => rfl
  | some o => have := h.lt e; omega

theorem Step.refl (H : AHeap) (w : World) (φ : Nat → Nat) : Step H w φ w φ := ⟨rfl, rfl, rfl, Nat.le_refl _, fun _ _ h => h, fun _ _ h => h, fun _ _ _ => ⟨rfl, rfl⟩⟩
theorem Out.refl {X : Ctx} {H : AHeap} {w : World} {φ : Nat → Nat} (h : Rel X w φ H) : Out X H w φ H w φ := ⟨Step.refl _ _ _, h, fun _ h => .inl h, fun _ => Nat.le_refl _⟩
theorem Out.trans {X : Ctx} {H H1 H2 : AHeap} {w w1 w2 : World} {φ φ1 φ2 : Nat → Nat} (h : Out X H w φ H1 w1 φ1) (k : Out X H1 w1 φ1 H2 w2 φ2) : Out X H w φ H2 w2 φ2 where
  step := ⟨k.step.os.trans h.step.os, k.step.tape.trans h.step.tape, k.step.output.trans h.step.output, Nat.le_trans h.step.size k.step.size,
    fun ad u hh => k.step.fz ad u (h.step.fz ad u hh), fun b n hh => k.step.sh b n (h.step.sh b n hh), fun b hb hn => by
      obtain ⟨e1, e2⟩ := h.step.un b hb hn
      have hn1 : H1.get b = none := by
        cases e : H1.get b with
        | none => rfl
        | some o => rcases h.dom b (by rw [e]; simp) with h1 | h1
                    · exact absurd hn h1
                    · omega
      obtain ⟨f1, f2⟩ := k.step.un b (Nat.lt_of_lt_of_le hb h.step.size) hn1
      exact ⟨f1.trans e1, f2.trans e2⟩⟩
  rel := k.rel
  dom := fun b hb => by
    rcases k.dom b hb with h1 | h1
    · exact h.dom b h1
    · exact .inr (Nat.le_trans h.step.size h1)
  drawn := fun hd => Nat.le_trans (h.drawn hd) (k.drawn hd)

theorem Step.vr {H : AHeap} {w w' : World} {φ φ' : Nat → Nat} (h : Step H w φ w' φ') {x : Value} {a : AV} (hx : VR (Fz w φ) (Sh w) x a) : VR (Fz w' φ') (Sh w') x a := hx.mono h.fz h.sh
theorem Step.vrs {H : AHeap} {w w' : World} {φ φ' : Nat → Nat} (h : Step H w φ w' φ') {x : List Value} {a : List AV} (hx : VRs (Fz w φ) (Sh w) x a) : VRs (Fz w' φ') (Sh w') x a := hx.mono h.fz h.sh

theorem OR.keep {w w' : World} {φ φ' : Nat → Nat} {b : Nat} {o : AObj} (h : OR w φ b o) (hb : w'.heap[b]? = w.heap[b]?) (hφ : φ' b = φ b)
    (hF : ∀ a u, Fz w φ a u → Fz w' φ' a u) (hS : ∀ b n, Sh w b n → Sh w' b n) : OR w' φ' b o := by
  cases o with
  | box T cs => obtain ⟨h1, arr, h2, h3⟩ := h; exact ⟨hφ.trans h1, arr, hb.trans h2, h3.mono hF hS⟩
  | row T sz sn es => obtain ⟨h1, h0, arr, vs, rest, h2, h3, h4, h5⟩ := h; exact ⟨by rw [hφ]; exact h1, h0, arr, vs, rest, hb.trans h2, h3, h4.mono hF hS, h5⟩
  | smap es => obtain ⟨h1, en, cl, h2, h3, h4, h5⟩ := h; exact ⟨hφ.trans h1, en, cl, hb.trans h2, h3.mono hF hS, h4.mono hF hS, h5⟩
  | imap k es => obtain ⟨h1, en, cl, h2, h3, h4, h5⟩ := h; exact ⟨hφ.trans h1, en, cl, hb.trans h2, h3.mono hF hS, h4.mono hF hS, h5⟩
  | loop sz fr ps as bd st pe => obtain ⟨h1, tm, fn, D, h2, h3, h4⟩ := h; exact ⟨hφ.trans h1, tm, fn, D, hb.trans h2, h3, fun t => (h4 t).mono hF hS⟩
  | kmap en cl ks vs => obtain ⟨h1, h2, h3, h4, h5⟩ := h; exact ⟨hφ.trans h1, hb.trans h2, h3.mono hF hS, h4.mono hF hS, h5⟩
  | walk m en cl is => obtain ⟨h1, h2⟩ := h; exact ⟨hφ.trans h1, hb.trans h2⟩
  | siter s pos => obtain ⟨h1, h2⟩ := h; exact ⟨hφ.trans h1, hb.trans h2⟩

theorem Out.forget {X : Ctx} {H H1 H2 : AHeap} {w w1 : World} {φ φ1 : Nat → Nat} (h : Out X H w φ H1 w1 φ1) (hs : ∀ b o, H2.get b = some o → H1.get b = some o) : Out X H w φ H2 w1 φ1 :=
  ⟨h.step, ⟨fun b o ho => h.rel.obj b o (hs b o ho), h.rel.lim, h.rel.env⟩, fun b hb => by
    cases e : H2.get b with
    | none => exact absurd e hb
    | some o => exact h.dom b (by rw [hs b o e]; simp), h.drawn⟩

theorem Out.frame {X : Ctx} {H H0 H1 H2 : AHeap} {w w1 : World} {φ φ1 : Nat → Nat} (h : Out X H0 w φ H1 w1 φ1) (hr : Rel X w φ H) (hs : ∀ b, H0.get b ≠ none → H.get b ≠ none)
    (h2 : ∀ b o, H2.get b = some o → H1.get b = some o ∨ (H0.get b = none ∧ H.get b = some o)) : Out X H w φ H2 w1 φ1 where
  step := { h.step with un := fun b hb hn => h.step.un b hb (by cases e : H0.get b with | none => rfl | some o => exact absurd hn (hs b (by rw [e]; simp))) }
  rel := ⟨fun b o ho => by
    rcases h2 b o ho with h3 | ⟨h3, h4⟩
    · exact h.rel.obj b o h3
    · have hlt := hr.lt h4
      obtain ⟨e1, e2⟩ := h.step.un b hlt h3
      exact (hr.obj b o h4).keep e1 e2 h.step.fz h.step.sh, h.rel.lim, h.rel.env⟩
  dom := fun b hb => by
    cases e : H2.get b with
    | none => exact absurd e hb
    | some o =>
      rcases h2 b o e with h3 | ⟨_, h4⟩
      · rcases h.dom b (by rw [h3]; simp) with h5 | h5
        · exact .inl (hs b h5)
        · exact .inr h5
      · exact .inl (by rw [h4]; simp)
  drawn := h.drawn

def Dfr (w0 : World) (H : AHeap) (w : World) (ds : List Deferred) : Prop :=
  ∃ Ds : List Nat, ds = Ds.map (fun D => { target := .collected D, args := #[] }) ∧ Ds.Nodup ∧ ∀ D ∈ Ds, w0.heap.size ≤ D ∧ w.heap[D]? = some (.deferred (some [])) ∧ H.get D = none
theorem Dfr.nil {w0 : World} {H : AHeap} {w : World} : Dfr w0 H w [] := ⟨[], rfl, .nil, fun _ h => absurd h List.not_mem_nil⟩
theorem Dfr.out {X : Ctx} {w0 w w' : World} {φ φ' : Nat → Nat} {H H' : AHeap} {ds : List Deferred} (h : Dfr w0 H w ds) (ho : Out X H w φ H' w' φ') : Dfr w0 H' w' ds := by
  obtain ⟨Ds, h1, h2, h3⟩ := h
  refine ⟨Ds, h1, h2, fun D hD => ?_⟩
  obtain ⟨g1, g2, g3⟩ := h3 D hD
  have hlt := (Array.getElem?_eq_some_iff.1 g2).1
  refine ⟨g1, by rw [(ho.step.un D hlt g3).1]; exact g2, ?_⟩
  cases e : H'.get D with
  | none => rfl
  | some o =>
    rcases ho.dom D (by rw [e]; simp) with h | h
    · exact absurd g3 h
    · omega
theorem Dfr.forget {w0 w : World} {H H' : AHeap} {ds : List Deferred} (h : Dfr w0 H w ds) (hs : ∀ b o, H'.get b = some o → H.get b = some o) : Dfr w0 H' w ds := by
  obtain ⟨Ds, h1, h2, h3⟩ := h
  refine ⟨Ds, h1, h2, fun D hD => ?_⟩
  obtain ⟨g1, g2, g3⟩ := h3 D hD
  refine ⟨g1, g2, ?_⟩
  cases e : H'.get D with
  | none => rfl
  | some o => rw [hs D o e] at g3; cases g3

end Go.AL

/-
  AL, part b: operations that write nothing.
-/
namespace Go.AL
open Go

def AV.ofC : Value → AV
  | .string b => .s b.data.toList
  | .slice none 0 0 => .sl true []
  | .agg cs => .agg (cs.toList.map fun | .string b => .s b.data.toList | .slice none 0 0 => .sl true [] | x => .v x)
  | x => .v x

theorem VRs.ofMap {F : Addr → Value → Prop} {S : Nat → Nat → Prop} {f : Value → AV} (hf : ∀ x, VR F S x (f x)) : ∀ l : List Value, VRs F S l (l.map f)
  | [] => .nil
  | x :: l => .cons (hf x) (VRs.ofMap hf l)

theorem VR.ofC {F : Addr → Value → Prop} {S : Nat → Nat → Prop} (x : Value) : VR F S x (.ofC x) := by
  unfold AV.ofC
  split
  · exact .s _
  · exact .slnil true
  · rename_i cs
    obtain ⟨l⟩ := cs
    refine .agg (VRs.ofMap (fun x => ?_) l)
    split
    · exact .s _
    · exact .slnil true
    · exact .v _
  · exact .v _

def AFr.ev (fr : AFr) : Operand → AV
  | .tmp t => AFr.get t fr
  | .const v => .ofC v
  | .global g => .v (.pointer (some ⟨g, 0, none⟩))
  | .func f => .fn (.func f) [] []

structure FR (w : World) (φ : Nat → Nat) (N : NR) (a : Act) (fr : AFr) : Prop where
  size : a.tmps.size = N.n
  at_ : ∀ t, VR (Fz w φ) (Sh w) (a.tmps.getD t undef) (AFr.get t fr)

theorem FR.ev {w : World} {φ : Nat → Nat} {N : NR} {a : Act} {fr : AFr} (h : FR w φ N a fr) (x : Operand) : VR (Fz w φ) (Sh w) (a.eval x) (fr.ev x) := by
  cases x with
  | tmp t => exact h.at_ t
  | const v => exact .ofC v
  | global g => exact .v _
  | func f => exact .fn .nil .nil

theorem FR.put {w : World} {φ : Nat → Nat} {N : NR} {d : Nat} {a : Act} {fr : AFr} (h : FR w φ N a fr) (hd : d < N.n) {v : Value} {av : AV} (hv : VR (Fz w φ) (Sh w) v av) : FR w φ N (a.put (some d) v) ((d, av) :: fr) where
  size := by simp [Act.put, h.size]
  at_ := fun t => by
    have hs := h.size
    simp only [AFr.get, Act.put]
    by_cases e : d = t
    · subst e; rw [if_pos rfl]
      rw [Array.getD_eq_getD_getElem?, Array.getElem?_setIfInBounds, if_pos rfl, if_pos (by omega)]
      exact hv
    · rw [if_neg e]
      rw [Array.getD_eq_getD_getElem?, Array.getElem?_setIfInBounds, if_neg e, ← Array.getD_eq_getD_getElem?]
      exact h.at_ t

theorem FR.mono {w w' : World} {φ φ' : Nat → Nat} {N : NR} {a : Act} {fr : AFr} (h : FR w φ N a fr) (hF : ∀ a u, Fz w φ a u → Fz w' φ' a u) (hS : ∀ b n, Sh w b n → Sh w' b n) : FR w' φ' N a fr :=
  ⟨h.size, fun t => (h.at_ t).mono hF hS⟩

section lists
variable {F : Addr → Value → Prop} {S : Nat → Nat → Prop}
theorem VRs.len {xs : List Value} {as : List AV} : VRs F S xs as → xs.length = as.length
  | .nil => rfl
  | .cons _ hs => by simp [VRs.len hs]
theorem VRs.get {xs : List Value} {as : List AV} : VRs F S xs as → ∀ (i : Nat) (a : AV), as[i]? = some a → ∃ x, xs[i]? = some x ∧ VR F S x a
  | .nil => fun i a h => by simp at h
  | .cons (x := x) h hs => fun i a hi => by
    cases i with
    | zero => simp at hi; exact ⟨x, rfl, hi ▸ h⟩
    | succ i => simp at hi; obtain ⟨y, h1, h2⟩ := VRs.get hs i a hi; exact ⟨y, by simpa using h1, h2⟩
theorem VRs.of_get : ∀ {xs : List Value} {as : List AV}, xs.length = as.length → (∀ (i : Nat) (x : Value) (a : AV), xs[i]? = some x → as[i]? = some a → VR F S x a) → VRs F S xs as
  | [], [], _, _ => .nil
  | x :: xs, a :: as, hl, h => .cons (h 0 x a rfl rfl) (VRs.of_get (by simpa using hl) (fun i y b hy hb => h (i + 1) y b (by simpa using hy) (by simpa using hb)))
  | [], a :: as, hl, _ => by simp at hl
  | x :: xs, [], hl, _ => by simp at hl
theorem VRs.get' {xs : List Value} {as : List AV} (h : VRs F S xs as) (i : Nat) (x : Value) (a : AV) (hx : xs[i]? = some x) (ha : as[i]? = some a) : VR F S x a := by
  obtain ⟨y, h1, h2⟩ := h.get i a ha
  rw [hx] at h1; cases h1; exact h2
theorem VRs.drop {xs : List Value} {as : List AV} (h : VRs F S xs as) (n : Nat) : VRs F S (xs.drop n) (as.drop n) :=
  VRs.of_get (by simp [h.len]) (fun i x a hx ha => h.get' (n + i) x a (by simpa using hx) (by simpa using ha))
theorem VRs.take {xs : List Value} {as : List AV} (h : VRs F S xs as) (n : Nat) : VRs F S (xs.take n) (as.take n) :=
  VRs.of_get (by simp [h.len]) (fun i x a hx ha => by
    rw [List.getElem?_take] at hx ha
    split at hx
    · rename_i hlt; rw [if_pos hlt] at ha; exact h.get' i x a hx ha
    · cases hx)
theorem VRs.append : ∀ {xs ys : List Value} {as bs : List AV}, VRs F S xs as → VRs F S ys bs → VRs F S (xs ++ ys) (as ++ bs)
  | _, _, _, _, .nil, k => k
  | _, _, _, _, .cons h hs, k => .cons h (VRs.append hs k)
theorem VRs.set {xs : List Value} {as : List AV} (h : VRs F S xs as) (i : Nat) {x : Value} {a : AV} (hx : VR F S x a) : VRs F S (xs.set i x) (as.set i a) :=
  VRs.of_get (by simp [h.len]) (fun j y b hy hb => by
    rw [List.getElem?_set] at hy hb
    by_cases e : i = j
    · rw [if_pos e] at hy hb
      by_cases hl : j < xs.length
      · subst e
        rw [if_pos hl] at hy; rw [if_pos (by rw [← h.len]; exact hl)] at hb
        cases hy; cases hb; exact hx
      · subst e
        rw [if_neg hl] at hy; cases hy
    · rw [if_neg e] at hy hb; exact h.get' j y b hy hb)
theorem VRs.map {ρ : Operand → Value} {ρa : Operand → AV} (h : ∀ x, VR F S (ρ x) (ρa x)) : ∀ l : List Operand, VRs F S (l.map ρ) (l.map ρa)
  | [] => .nil
  | x :: l => .cons (h x) (VRs.map h l)

theorem add_add (a : Addr) (m n : Nat) : (a.add m).add n = a.add (m + n) := by
  unfold Addr.add
  by_cases h1 : m = 0 <;> by_cases h2 : n = 0 <;> simp_all [Nat.add_assoc]

def Cw (F : Addr → Value → Prop) (S : Nat → Nat → Prop) (w : World) (ad : Addr) (cs : List AV) : Prop := ∀ j a, cs[j]? = some a → ∃ u, w.cell? (ad.add j) = some u ∧ VR F S u a

theorem CRs.get : ∀ {cs : List AV} {ad : Addr} {j : Nat}, CRs F S ad j cs → ∀ i a, cs[i]? = some a → ∃ u, F (ad.add (j + i)) u ∧ VR F S u a
  | _, _, _, .nil => fun i a h => by simp at h
  | _, ad, j, .cons (u := u) h hv hs => fun i a hi => by
    cases i with
    | zero => simp at hi; exact ⟨u, h, hi ▸ hv⟩
    | succ i =>
      simp at hi
      obtain ⟨y, h1, h2⟩ := CRs.get hs i a hi
      exact ⟨y, by rw [show j + (i + 1) = j + 1 + i from by omega]; exact h1, h2⟩
theorem CRs.of_get {ad : Addr} : ∀ (cs : List AV) (j : Nat), (∀ i a, cs[i]? = some a → ∃ u, F (ad.add (j + i)) u ∧ VR F S u a) → CRs F S ad j cs
  | [], _, _ => .nil
  | a :: cs, j, h => by
    obtain ⟨u, h1, h2⟩ := h 0 a rfl
    exact .cons h1 h2 (CRs.of_get cs (j + 1) (fun i b hb => by obtain ⟨y, g1, g2⟩ := h (i + 1) b (by simpa using hb); exact ⟨y, by rw [show j + 1 + i = j + (i + 1) from by omega]; exact g1, g2⟩))
theorem ERs.get : ∀ {es : List (List AV)} {ad : Addr} {sz i : Nat}, ERs F S ad sz i es → ∀ k e, es[k]? = some e → e.length = sz ∧ CRs F S ad ((i + k) * sz) e
  | _, _, _, _, .nil => fun k e h => by simp at h
  | _, ad, sz, i, .cons hl hc hs => fun k e hk => by
    cases k with
    | zero => simp at hk; subst hk; exact ⟨hl, hc⟩
    | succ k =>
      simp at hk
      obtain ⟨h1, h2⟩ := ERs.get hs k e hk
      exact ⟨h1, by rw [show i + (k + 1) = i + 1 + k from by omega]; exact h2⟩
theorem ERs.of_get {ad : Addr} {sz : Nat} : ∀ (es : List (List AV)) (i : Nat), (∀ k e, es[k]? = some e → e.length = sz ∧ CRs F S ad ((i + k) * sz) e) → ERs F S ad sz i es
  | [], _, _ => .nil
  | e :: es, i, h => by
    obtain ⟨h1, h2⟩ := h 0 e rfl
    exact .cons h1 h2 (ERs.of_get es (i + 1) (fun k b hb => by rw [show i + 1 + k = i + (k + 1) from by omega]; exact h (k + 1) b (by simpa using hb)))
theorem CRs.shift {ad : Addr} {j k : Nat} {cs : List AV} (h : CRs F S ad (j + k) cs) : CRs F S (ad.add j) k cs :=
  CRs.of_get cs k (fun i a hi => by obtain ⟨u, h1, h2⟩ := h.get i a hi; exact ⟨u, by rw [add_add, ← Nat.add_assoc]; exact h1, h2⟩)
theorem CRs.drop {ad : Addr} {j : Nat} {cs : List AV} (h : CRs F S ad j cs) (n : Nat) : CRs F S ad (j + n) (cs.drop n) :=
  CRs.of_get _ _ (fun i a hi => by
    rw [List.getElem?_drop] at hi
    obtain ⟨u, h1, h2⟩ := h.get (n + i) a hi
    exact ⟨u, by rw [Nat.add_assoc]; exact h1, h2⟩)
end lists

def AV.cellsAt (H : AHeap) : AV → Option (List AV)
  | .v (.pointer (some ⟨b, off, none⟩)) => match H.get b with
    | some (.box _ cs) => some (cs.drop off)
    | _ => none
  | .fp cs => some cs
  | .rp b sz i o => match H.get b with
    | some (.row _ sz' _ es) => if sz = sz' then (es[i]?).map (·.drop o) else none
    | _ => none
  | _ => none

theorem Cw.of_crs {w : World} {φ : Nat → Nat} {ad : Addr} {cs : List AV} (h : CRs (Fz w φ) (Sh w) ad 0 cs) : Cw (Fz w φ) (Sh w) w ad cs := fun j a hj => by
  obtain ⟨u, h1, h2⟩ := h.get j a hj
  rw [Nat.zero_add] at h1
  exact ⟨u, h1.1, h2⟩

theorem cell_row {w : World} {b : Nat} {arr : Array Value} {T : TypeId} {fr : Nat × Nat} (h : w.heap[b]? = some (.cells arr T fr)) (j : Nat) : w.cell? ⟨b, j, none⟩ = arr.toList[j]? := by
  simp [World.cell?, h]

theorem add_none (b off j : Nat) : (⟨b, off, none⟩ : Addr).add j = ⟨b, off + j, none⟩ := by unfold Addr.add; split <;> simp_all

theorem flatten_get {α : Type} {sz : Nat} : ∀ {es : List (List α)}, (∀ e, e ∈ es → e.length = sz) → ∀ (i j : Nat) (e : List α) (x : α), es[i]? = some e → e[j]? = some x → es.flatten[i * sz + j]? = some x
  | [], _, i, j, e, x, h, _ => by simp at h
  | e0 :: es, hl, i, j, e, x, h, hx => by
    have h0 := hl e0 (by simp)
    cases i with
    | zero =>
      simp at h; subst h
      have hj : j < e0.length := (List.getElem?_eq_some_iff.1 hx).1
      simp only [List.flatten_cons, Nat.zero_mul, Nat.zero_add]
      rw [List.getElem?_append_left hj]; exact hx
    | succ i =>
      simp at h
      simp only [List.flatten_cons]
      have : (i + 1) * sz + j = e0.length + (i * sz + j) := by rw [Nat.succ_mul, h0]; omega
      rw [this, List.getElem?_append_right (by omega), Nat.add_sub_cancel_left]
      exact flatten_get (fun e he => hl e (by simp [he])) i j e x h hx

theorem cellsAt_ok {X : Ctx} {w : World} {φ : Nat → Nat} {H : AHeap} {x : Value} {p : AV} {cs : List AV} (h : p.cellsAt H = some cs) (hr : Rel X w φ H) (hx : VR (Fz w φ) (Sh w) x p) :
    ∃ ad, x = .pointer (some ad) ∧ Cw (Fz w φ) (Sh w) w ad cs := by
  unfold AV.cellsAt at h
  split at h
  · rename_i b off
    cases hx
    split at h
    · rename_i T cs0 hb
      cases h
      obtain ⟨_, arr, h1, h2⟩ := hr.obj b _ hb
      refine ⟨_, rfl, fun j a hj => ?_⟩
      rw [List.getElem?_drop] at hj
      obtain ⟨u, g1, g2⟩ := h2.get _ a hj
      exact ⟨u, by rw [add_none, cell_row h1]; exact g1, g2⟩
    · cases h
  · cases h
    cases hx
    rename_i ad hc
    exact ⟨ad, rfl, .of_crs hc⟩
  · rename_i b sz i o
    cases hx
    split at h
    · rename_i T sz' sn es hb
      split at h
      · rename_i e; subst e
        obtain ⟨_, hl, arr, vs, rest, h1, h2, h3, _⟩ := hr.obj b _ hb
        rw [Option.map_eq_some_iff] at h
        obtain ⟨e, he, rfl⟩ := h
        refine ⟨_, rfl, fun j a hj => ?_⟩
        rw [List.getElem?_drop] at hj
        have := flatten_get hl i (o + j) e a he hj
        obtain ⟨u, g1, g2⟩ := h3.get _ a this
        refine ⟨u, ?_, g2⟩
        rw [add_none, cell_row h1, h2, Nat.add_assoc, List.getElem?_append_left (List.getElem?_eq_some_iff.1 g1).1]
        exact g1
      · cases h
    · cases h
  · cases h

def aggT (P : Program) (T : TypeId) : Bool := match P.underlying T with | some (.struct _) => true | some (.array _ _) => true | _ => false

def ldAt (P : Program) (T : TypeId) (cs : List AV) : Option AV :=
  match P.underlying T, P.info? T with
  | some _, some i => if aggT P T then (if i.size ≤ cs.length then some (.agg (cs.take i.size)) else none) else cs.head?
  | _, _ => none

theorem run_isAgg {P : Program} {T : TypeId} {d : TypeDesc} (h : P.underlying T = some d) (w : World) : (isAgg T).run P w = .ok (aggT P T) w := by
  unfold isAgg aggT underlying
  cases d <;> simp [h]

theorem run_sizeOf {P : Program} {T : TypeId} {i : TypeInfo} (h : P.info? T = some i) (w : World) : (sizeOf T).run P w = .ok i.size w := by
  unfold sizeOf typeInfo
  simp [h]

theorem Cw.list {F : Addr → Value → Prop} {S : Nat → Nat → Prop} {w : World} {ad : Addr} : ∀ {cs : List AV} {k : Nat}, (∀ j a, cs[j]? = some a → ∃ u, w.cell? (ad.add (k + j)) = some u ∧ VR F S u a) →
    ∃ us, VRs F S us cs ∧ ∀ j u, us[j]? = some u → w.cell? (ad.add (k + j)) = some u
  | [], _, _ => ⟨[], .nil, fun j u h => by simp at h⟩
  | a :: cs, k, h => by
    obtain ⟨u, h1, h2⟩ := h 0 a rfl
    obtain ⟨us, h3, h4⟩ := Cw.list (cs := cs) (k := k + 1) (fun j b hb => by obtain ⟨u, g1, g2⟩ := h (j + 1) b (by simpa using hb); exact ⟨u, by rw [show k + 1 + j = k + (j + 1) from by omega]; exact g1, g2⟩)
    refine ⟨u :: us, .cons h2 h3, fun j x hx => ?_⟩
    cases j with
    | zero => simp at hx; subst hx; exact h1
    | succ j => simp at hx; rw [show k + (j + 1) = k + 1 + j from by omega]; exact h4 j x hx

theorem load_ok {P : Program} {F : Addr → Value → Prop} {S : Nat → Nat → Prop} {w : World} {T : TypeId} {ad : Addr} {cs : List AV} {av : AV} (h : ldAt P T cs = some av) (hc : Cw F S w ad cs) :
    ∃ v, (loadVar T ad).run P w = .ok v w ∧ VR F S v av := by
  unfold ldAt at h
  split at h
  · rename_i d i hu hi
    unfold loadVar
    rw [Sem.run_bind, run_isAgg hu]
    simp only [Result.andThen_ok]
    split at h
    · rename_i hagg
      rw [if_pos hagg]
      split at h
      · rename_i hle
        cases h
        obtain ⟨us, h1, h2⟩ := Cw.list (F := F) (S := S) (w := w) (ad := ad) (cs := cs) (k := 0) (fun j a hj => by rw [Nat.zero_add]; exact hc j a hj)
        refine ⟨.agg ⟨us.take i.size⟩, ?_, .agg (h1.take _)⟩
        rw [Sem.run_bind, run_sizeOf hi]
        simp only [Result.andThen_ok]
        rw [Sem.run_bind]
        have hn : (us.take i.size).length = i.size := by rw [List.length_take, h1.len]; omega
        have := run_loadCells_list (P := P) (w := w) ad (us.take i.size) (fun j v hj => by
          rw [List.getElem?_take] at hj
          split at hj
          · have := h2 j v hj; rwa [Nat.zero_add] at this
          · cases hj)
        rw [hn] at this
        rw [this]
        simp
      · cases h
    · rename_i hagg
      rw [if_neg hagg]
      cases cs with
      | nil => simp at h
      | cons c cs =>
        simp at h; subst h
        obtain ⟨u, h1, h2⟩ := hc 0 c rfl
        refine ⟨u, ?_, h2⟩
        have : ad.add 0 = ad := by simp [Addr.add]
        rw [this] at h1
        simp [run_load, h1]
  · cases h

end Go.AL

/-
  AL, part c: the quiet operations: what they give, abstractly ('pv'), and that the run gives that.
-/
set_option linter.unusedSimpArgs false
set_option linter.unusedVariables false
namespace Go.AL
open Go

def blt : List UInt8 → List UInt8 → Bool := Op.bytesLess

def intV (op : BinOp) (k : IntKind) (a b : Int) : Option AV :=
  match op with
  | .add => some (.v (.int k (k.wrap (a + b))))
  | .sub => some (.v (.int k (k.wrap (a - b))))
  | .mul => some (.v (.int k (k.wrap (a * b))))
  | .eql => some (.v (.bool (decide (a = b))))
  | .neq => some (.v (.bool (!decide (a = b))))
  | .lss => some (.v (.bool (decide (a < b))))
  | .leq => some (.v (.bool (decide (a ≤ b))))
  | .gtr => some (.v (.bool (decide (b < a))))
  | .geq => some (.v (.bool (decide (b ≤ a))))
  | .quo => if b = 0 then none else some (.v (.int k (k.wrap (Int.tdiv a b))))
  | .rem => if b = 0 then none else some (.v (.int k (Int.tmod a b)))
  | .shr => if 0 ≤ b then some (.v (.int k (a.fdiv (2 ^ min b.toNat k.bits)))) else none
  | .shl => if 0 ≤ b then some (.v (.int k (k.wrap (a * 2 ^ min b.toNat k.bits)))) else none
  | .and => some (.v (.int k (k.wrap ((BitVec.ofInt k.bits a &&& BitVec.ofInt k.bits b).toNat : Int))))
  | .or => some (.v (.int k (k.wrap ((BitVec.ofInt k.bits a ||| BitVec.ofInt k.bits b).toNat : Int))))
  | _ => none

def strV (op : BinOp) (a b : List UInt8) : Option AV :=
  match op with
  | .add => if a.length + b.length ≤ 9223372036854775807 then some (.s (a ++ b)) else none
  | .eql => some (.v (.bool (decide (a = b))))
  | .neq => some (.v (.bool (!decide (a = b))))
  | .lss => some (.v (.bool (blt a b)))
  | .leq => some (.v (.bool (blt a b || decide (a = b))))
  | .gtr => some (.v (.bool (!(blt a b || decide (a = b)))))
  | .geq => some (.v (.bool (!blt a b)))
  | _ => none

def ptrNil : AV → Option Bool
  | .v (.pointer none) => some true
  | .v (.pointer (some _)) => some false
  | .fp _ => some false
  | .rp .. => some false
  | _ => none
def mapNil : AV → Option Bool
  | .v (.map none) => some true
  | .v (.map (some _)) => some false
  | _ => none
def funNil : AV → Option Bool
  | .v .nilFunc => some true
  | .fn .. => some false
  | _ => none

def plainEq (P : Program) (T : TypeId) (x y : AV) : Option Bool :=
  match P.underlying T with
  | some .bool => match x, y with
    | .v (.bool a), .v (.bool b) => some (decide (a = b))
    | _, _ => none
  | some (.int _) => match x, y with
    | .v (.int j a), .v (.int k b) => if j = k then some (decide (a = b)) else none
    | _, _ => none
  | some .string => match x, y with
    | .s a, .s b => some (decide (a = b))
    | _, _ => none
  | some (.pointer _) => match x, y with
    | x, .v (.pointer none) => ptrNil x
    | .v (.pointer none), y => ptrNil y
    | _, _ => none
  | some (.map _ _) => match x, y with
    | x, .v (.map none) => mapNil x
    | .v (.map none), y => mapNil y
    | _, _ => none
  | some (.func _ _ _) => match x, y with
    | x, .v .nilFunc => funNil x
    | .v .nilFunc, y => funNil y
    | _, _ => none
  | _ => none

def fieldsEq (P : Program) : List Field → List AV → List AV → Option Bool
  | [], _, _ => some true
  | f :: fs, xs, ys => if f.name = "_" then none else
    match aggT P f.type, xs[f.offset]?, ys[f.offset]? with
    | false, some x, some y => match plainEq P f.type x y, fieldsEq P fs xs ys with
      | some r, some s => some (r && s)
      | _, _ => none
    | _, _, _ => none

def eqV (P : Program) (T : TypeId) (x y : AV) : Option Bool :=
  match x, y with
  | .agg xs, .agg ys => match P.underlying T with
    | some (.struct fs) => if P.stoodInHeld T || P.eqGuardType P.depth T then none else fieldsEq P fs.toList xs ys
    | _ => none
  | x, y => plainEq P T x y

def shiftV (op : BinOp) (k : IntKind) (a b : Int) : Option AV :=
  match op with
  | .shr => if 0 ≤ b then some (.v (.int k (a.fdiv (2 ^ min b.toNat k.bits)))) else none
  | .shl => if 0 ≤ b then some (.v (.int k (k.wrap (a * 2 ^ min b.toNat k.bits)))) else none
  | _ => none

def binV (P : Program) (op : BinOp) (T : TypeId) (x y : AV) : Option AV :=
  match op, x, y with
  | op, .v (.int k a), .v (.int k' b) => if k = k' then intV op k a b else shiftV op k a b
  | op, .s a, .s b => strV op a b
  | .eql, x, y => (eqV P T x y).map fun b => .v (.bool b)
  | .neq, x, y => (eqV P T x y).map fun b => .v (.bool (!b))
  | _, _, _ => none

def unV : UnOp → AV → Option AV
  | .not, .v (.bool b) => some (.v (.bool (!b)))
  | .neg, .v (.int k n) => some (.v (.int k (k.wrap (0 - n))))
  | _, _ => none

section
variable {F : Addr → Value → Prop} {S : Nat → Nat → Prop} {P : Program} {w : World}

theorem intV_ok {op : BinOp} {k : IntKind} {a b : Int} {av : AV} (h : intV op k a b = some av) (T : TypeId) :
    ∃ v, (binOp op T (.int k a) (.int k b)).run P w = .ok v w ∧ VR F S v av := by
  cases op <;> simp only [intV] at h
  case add => cases h; exact ⟨_, by simp [binOp, Op.intArith], .v _⟩
  case sub => cases h; exact ⟨_, by simp [binOp, Op.intArith], .v _⟩
  case mul => cases h; exact ⟨_, by simp [binOp, Op.intArith], .v _⟩
  case eql => cases h; exact ⟨_, by simp only [binOp, Op.intCmp, ne_eq, not_true_eq_false, if_false]; rfl, .v _⟩
  case neq => cases h; exact ⟨_, by simp only [binOp, Op.intCmp, ne_eq, not_true_eq_false, if_false]; rfl, .v _⟩
  case lss => cases h; exact ⟨_, by simp only [binOp, Op.intCmp, ne_eq, not_true_eq_false, if_false]; rfl, .v _⟩
  case leq => cases h; exact ⟨_, by simp only [binOp, Op.intCmp, ne_eq, not_true_eq_false, if_false]; rfl, .v _⟩
  case gtr => cases h; exact ⟨_, by simp only [binOp, Op.intCmp, ne_eq, not_true_eq_false, if_false]; rfl, .v _⟩
  case geq => cases h; exact ⟨_, by simp only [binOp, Op.intCmp, ne_eq, not_true_eq_false, if_false]; rfl, .v _⟩
  case quo =>
    split at h
    · cases h
    · rename_i h0; cases h; exact ⟨_, by simp only [binOp, Op.intDiv, ne_eq, not_true_eq_false, if_false, h0]; rfl, .v _⟩
  case rem =>
    split at h
    · cases h
    · rename_i h0; cases h; exact ⟨_, by simp only [binOp, Op.intDiv, ne_eq, not_true_eq_false, if_false, h0]; rfl, .v _⟩
  case shr =>
    split at h
    · rename_i h0
      cases h
      refine ⟨.int k (a.fdiv (2 ^ min b.toNat k.bits)), ?_, .v _⟩
      have h1 : ¬ b < 0 := by omega
      unfold binOp Op.shift
      simp [h1]
    · cases h
  case shl =>
    split at h
    · rename_i h0
      cases h
      refine ⟨.int k (k.wrap (a * 2 ^ min b.toNat k.bits)), ?_, .v _⟩
      have h1 : ¬ b < 0 := by omega
      unfold binOp Op.shift
      simp [h1]
    · cases h
  case and => cases h; exact ⟨_, by simp [binOp, Op.intBits], .v _⟩
  case or => cases h; exact ⟨_, by simp [binOp, Op.intBits], .v _⟩
  all_goals cases h

theorem shiftV_ok {op : BinOp} {k k' : IntKind} {a b : Int} {av : AV} (h : shiftV op k a b = some av) (T : TypeId) :
    ∃ v, (binOp op T (.int k a) (.int k' b)).run P w = .ok v w ∧ VR F S v av := by
  cases op <;> simp only [shiftV] at h
  case shr =>
    split at h
    · rename_i h0
      cases h
      refine ⟨.int k (a.fdiv (2 ^ min b.toNat k.bits)), ?_, .v _⟩
      have h1 : ¬ b < 0 := by omega
      unfold binOp Op.shift
      simp [h1]
    · cases h
  case shl =>
    split at h
    · rename_i h0
      cases h
      refine ⟨.int k (k.wrap (a * 2 ^ min b.toNat k.bits)), ?_, .v _⟩
      have h1 : ¬ b < 0 := by omega
      unfold binOp Op.shift
      simp [h1]
    · cases h
  all_goals cases h

theorem strV_ok {op : BinOp} {a b : ByteArray} {av : AV} (h : strV op a.data.toList b.data.toList = some av) (T : TypeId) :
    ∃ v, (binOp op T (.string a) (.string b)).run P w = .ok v w ∧ VR F S v av := by
  have hb : ∀ x y : List UInt8, (x == y) = decide (x = y) := fun x y => by by_cases e : x = y <;> simp [e]
  cases op <;> simp only [strV] at h
  case add =>
    split at h
    · rename_i hle
      cases h
      refine ⟨.string (a ++ b), ?_, ?_⟩
      · have hsz : ¬ (((a.size + b.size : Nat) : Int) > IntKind.i64.max) := by
          have h1 : a.data.toList.length = a.size := by rw [Array.length_toList]; rfl
          have h2 : b.data.toList.length = b.size := by rw [Array.length_toList]; rfl
          have : IntKind.i64.max = 9223372036854775807 := by decide
          omega
        simp only [binOp, Op.stringOp, if_neg hsz]; rfl
      · have := VR.s (F := F) (S := S) (a ++ b)
        rwa [show (a ++ b).data.toList = a.data.toList ++ b.data.toList from by simp [ByteArray.data_append]] at this
    · cases h
  case eql => cases h; exact ⟨_, by simp only [binOp, Op.stringOp, Lib.toList_data, hb]; rfl, .v _⟩
  case neq => cases h; exact ⟨_, by simp only [binOp, Op.stringOp, Lib.toList_data, hb]; rfl, .v _⟩
  case lss => cases h; exact ⟨_, by simp only [binOp, Op.stringOp, Lib.toList_data, hb]; rfl, .v _⟩
  case leq => cases h; exact ⟨_, by simp only [binOp, Op.stringOp, Lib.toList_data, hb]; rfl, .v _⟩
  case gtr => cases h; exact ⟨_, by simp only [binOp, Op.stringOp, Lib.toList_data, hb]; rfl, .v _⟩
  case geq => cases h; exact ⟨_, by simp only [binOp, Op.stringOp, Lib.toList_data, hb]; rfl, .v _⟩
  all_goals cases h

theorem run_und {T : TypeId} {d : TypeDesc} (h : P.underlying T = some d) (w : World) : (underlying T).run P w = .ok d w := by
  unfold underlying; simp [h]

theorem ptrNil_ok {x : Value} {a : AV} {r : Bool} (h : ptrNil a = some r) (hx : VR F S x a) : ∃ p, x = .pointer p ∧ p.isNone = r := by
  unfold ptrNil at h
  split at h <;> cases h <;> cases hx <;> exact ⟨_, rfl, rfl⟩
theorem mapNil_ok {x : Value} {a : AV} {r : Bool} (h : mapNil a = some r) (hx : VR F S x a) : ∃ p, x = .map p ∧ p.isNone = r := by
  unfold mapNil at h
  split at h <;> cases h <;> cases hx <;> exact ⟨_, rfl, rfl⟩
theorem funNil_ok {x : Value} {a : AV} {r : Bool} (h : funNil a = some r) (hx : VR F S x a) : (x = .nilFunc ∧ r = true) ∨ ∃ f p q, x = .func f p q ∧ r = false := by
  unfold funNil at h
  split at h <;> cases h <;> cases hx
  · exact .inl ⟨rfl, rfl⟩
  · exact .inr ⟨_, _, _, rfl, rfl⟩

theorem beq_dec {α : Type} [DecidableEq α] (x y : α) : (x == y) = decide (x = y) := by by_cases e : x = y <;> simp [e]
theorem str_beq (a b : ByteArray) : (a == b) = decide (a.data.toList = b.data.toList) := by
  rw [beq_toListBytes, Lib.toList_data, Lib.toList_data]
  by_cases e : a.data.toList = b.data.toList
  · simp [e]
  · rw [decide_eq_false e]
    exact beq_eq_false_iff_ne.2 e

theorem plainEq_ok {d : Nat} {T : TypeId} {x y : Value} {a b : AV} {r : Bool} (h : plainEq P T a b = some r) (hx : VR F S x a) (hy : VR F S y b) :
    (Op.equalIn (d + 1) T x y).run P w = .ok r w := by
  unfold plainEq at h
  split at h
  · rename_i hu
    split at h
    · cases h; cases hx; cases hy; simp [Op.equalIn, run_und hu, beq_dec]
    · cases h
  · rename_i hu
    split at h
    · split at h
      · rename_i e; subst e; cases h; cases hx; cases hy; simp [Op.equalIn, run_und hu, beq_dec]
      · cases h
    · cases h
  · rename_i hu
    split at h
    · cases h; cases hx; cases hy; simp [Op.equalIn, run_und hu, str_beq]
    · cases h
  · rename_i hu
    split at h
    · obtain ⟨p, rfl, e⟩ := ptrNil_ok h hx
      cases hy
      cases p <;> simp [Op.equalIn, run_und hu] <;> simpa using e
    · obtain ⟨p, rfl, e⟩ := ptrNil_ok h hy
      cases hx
      cases p <;> simp [Op.equalIn, run_und hu] <;> simpa using e
    · cases h
  · rename_i hu
    split at h
    · obtain ⟨p, rfl, e⟩ := mapNil_ok h hx
      cases hy
      cases p <;> simp [Op.equalIn, run_und hu] <;> simpa using e
    · obtain ⟨p, rfl, e⟩ := mapNil_ok h hy
      cases hx
      cases p <;> simp [Op.equalIn, run_und hu] <;> simpa using e
    · cases h
  · rename_i hu
    split at h
    · rcases funNil_ok h hx with ⟨rfl, rfl⟩ | ⟨f, p, q, rfl, rfl⟩ <;> cases hy <;> simp [Op.equalIn, run_und hu]
    · rcases funNil_ok h hy with ⟨rfl, rfl⟩ | ⟨f, p, q, rfl, rfl⟩ <;> cases hx <;> simp [Op.equalIn, run_und hu]
    · cases h
  · cases h

theorem run_part {T : TypeId} (hagg : aggT P T = false) (hu : ∃ d, P.underlying T = some d) (xs : Array Value) (i : Nat) (x : Value) (h : xs[i]? = some x) : (part T xs i).run P w = .ok x w := by
  obtain ⟨d, hd⟩ := hu
  unfold part
  rw [Sem.run_bind, run_isAgg hd]
  simp [hagg, h]

theorem plainEq_und {T : TypeId} {a b : AV} {r : Bool} (h : plainEq P T a b = some r) : ∃ d, P.underlying T = some d := by
  unfold plainEq at h
  split at h <;> first | exact ⟨_, by assumption⟩ | cases h

theorem fieldsEq_ok {d : Nat} {xs ys : List Value} {as bs : List AV} (hx : VRs F S xs as) (hy : VRs F S ys bs) : ∀ {fs : List Field} {r : Bool}, fieldsEq P fs as bs = some r →
    (Op.eqFields (d + 1) ⟨xs⟩ ⟨ys⟩ fs).run P w = .ok r w
  | [], r, h => by cases h; simp [Op.eqFields]
  | f :: fs, r, h => by
    unfold fieldsEq at h
    split at h
    · cases h
    · rename_i hn
      split at h
      · rename_i x y hagg hax hay
        split at h
        · rename_i r0 s0 h1 h2
          cases h
          obtain ⟨vx, e1, e2⟩ := hx.get _ _ hax
          obtain ⟨vy, e3, e4⟩ := hy.get _ _ hay
          have ih := fieldsEq_ok (d := d) hx hy h2
          have hd := plainEq_und h1
          rw [Op.eqFields, if_pos hn]
          simp only [Sem.run_bind, run_part hagg hd ⟨xs⟩ _ vx (by simpa using e1), run_part hagg hd ⟨ys⟩ _ vy (by simpa using e3), plainEq_ok h1 e2 e4, Result.andThen_ok]
          cases r0
          · simp
          · simpa using ih
        · cases h
      · cases h

theorem ptrNil_kind {x : Value} {a : AV} {r : Bool} (h : ptrNil a = some r) (hx : VR F S x a) : x ≠ .nilIface ∧ ∀ c, x ≠ .agg c := by
  obtain ⟨p, rfl, _⟩ := ptrNil_ok h hx; exact ⟨by simp, by simp⟩
theorem mapNil_kind {x : Value} {a : AV} {r : Bool} (h : mapNil a = some r) (hx : VR F S x a) : x ≠ .nilIface ∧ ∀ c, x ≠ .agg c := by
  obtain ⟨p, rfl, _⟩ := mapNil_ok h hx; exact ⟨by simp, by simp⟩
theorem funNil_kind {x : Value} {a : AV} {r : Bool} (h : funNil a = some r) (hx : VR F S x a) : x ≠ .nilIface ∧ ∀ c, x ≠ .agg c := by
  rcases funNil_ok h hx with ⟨rfl, _⟩ | ⟨f, p, q, rfl, _⟩ <;> exact ⟨by simp, by simp⟩
theorem plainEq_kind {T : TypeId} {x y : Value} {a b : AV} {r : Bool} (h : plainEq P T a b = some r) (hx : VR F S x a) (hy : VR F S y b) : x ≠ .nilIface ∧ ∀ c, x ≠ .agg c := by
  unfold plainEq at h
  split at h
  · split at h
    · cases hx; exact ⟨by simp, by simp⟩
    · cases h
  · split at h
    · cases hx; exact ⟨by simp, by simp⟩
    · cases h
  · split at h
    · cases hx; exact ⟨by simp, by simp⟩
    · cases h
  · split at h
    · exact ptrNil_kind h hx
    · cases hx; exact ⟨by simp, by simp⟩
    · cases h
  · split at h
    · exact mapNil_kind h hx
    · cases hx; exact ⟨by simp, by simp⟩
    · cases h
  · split at h
    · exact funNil_kind h hx
    · cases hx; exact ⟨by simp, by simp⟩
    · cases h
  · cases h

theorem eqV_ok {d : Nat} {T : TypeId} {x y : Value} {a b : AV} {r : Bool} (h : eqV P T a b = some r) (hx : VR F S x a) (hy : VR F S y b) :
    (Op.equalIn (d + 2) T x y).run P w = .ok r w := by
  unfold eqV at h
  split at h
  · split at h
    · rename_i fs hu
      split at h
      · cases h
      · rename_i hst
        simp only [Bool.or_eq_true, not_or, Bool.not_eq_true] at hst
        cases hx; cases hy
        have hf : P.fieldsOf T = fs := by simp [Program.fieldsOf, hu]
        rw [run_equalIn_struct w (d + 1) T _ _ (by rw [hf]; exact hu) hst.1, hf]
        exact fieldsEq_ok (by assumption) (by assumption) h
    · cases h
  · exact plainEq_ok h hx hy

end
end Go.AL

/-
  AL, part d: the quiet operations, all.
-/
set_option linter.unusedSimpArgs false
set_option linter.unusedVariables false
namespace Go.AL
open Go

section
variable {F : Addr → Value → Prop} {S : Nat → Nat → Prop} {P : Program} {w : World}

theorem eqGuard_plain {op : BinOp} {T : TypeId} {p q : Operand} {x y : Value} (h1 : x ≠ .nilIface) (h2 : ∀ c, x ≠ .agg c) : (eqGuard op T p q x y).run P w = .ok () w := by
  unfold eqGuard
  cases op <;> simp only [Bool.not_true, Bool.not_false, Bool.false_eq_true, if_false, if_true] <;> first | rfl | skip
  all_goals
    split
    · exact absurd rfl h1
    · exact absurd rfl (h2 _)
    · rfl

theorem eqGuard_agg {op : BinOp} {T : TypeId} {p q : Operand} {x y : Array Value} (h : P.eqGuardType P.depth T = false) : (eqGuard op T p q (.agg x) (.agg y)).run P w = .ok () w := by
  unfold eqGuard
  cases op <;> simp [h]

theorem eqGuard_ok {op : BinOp} {T : TypeId} {p q : Operand} {x y : Value} {a b : AV} {r : Bool} (h : eqV P T a b = some r) (hx : VR F S x a) (hy : VR F S y b) :
    (eqGuard op T p q x y).run P w = .ok () w := by
  unfold eqV at h
  split at h
  · split at h
    · split at h
      · cases h
      · rename_i hst
        simp only [Bool.or_eq_true, not_or, Bool.not_eq_true] at hst
        cases hx; cases hy
        exact eqGuard_agg hst.2
    · cases h
  · obtain ⟨h1, h2⟩ := plainEq_kind h hx hy
    exact eqGuard_plain h1 h2

theorem maxDepth_eq : Op.maxDepth = 9998 + 2 := rfl

def nonnum : Value → Bool
  | .int .. | .float .. | .complex .. | .string _ => false
  | _ => true
theorem binOp_eql {T : TypeId} {x y : Value} (h : nonnum x = true) : binOp .eql T x y = (do pure (.bool (← Op.equal T x y)) : Sem Value) := by
  cases x <;> simp [nonnum] at h <;> rfl
theorem binOp_neq {T : TypeId} {x y : Value} (h : nonnum x = true) : binOp .neq T x y = (do pure (.bool (!(← Op.equal T x y))) : Sem Value) := by
  cases x <;> simp [nonnum] at h <;> rfl

theorem plainEq_num {T : TypeId} {x y : Value} {a b : AV} {r : Bool} (h : plainEq P T a b = some r) (hx : VR F S x a) (hy : VR F S y b) :
    nonnum x = true ∨ (∃ k m n, a = .v (.int k m) ∧ b = .v (.int k n)) ∨ ∃ l m, a = .s l ∧ b = .s m := by
  unfold plainEq at h
  split at h
  · split at h
    · cases hx; exact .inl rfl
    · cases h
  · split at h
    · split at h
      · rename_i e; subst e; exact .inr (.inl ⟨_, _, _, rfl, rfl⟩)
      · cases h
    · cases h
  · split at h
    · exact .inr (.inr ⟨_, _, rfl, rfl⟩)
    · cases h
  · split at h
    · obtain ⟨p, rfl, _⟩ := ptrNil_ok h hx; exact .inl rfl
    · cases hx; exact .inl rfl
    · cases h
  · split at h
    · obtain ⟨p, rfl, _⟩ := mapNil_ok h hx; exact .inl rfl
    · cases hx; exact .inl rfl
    · cases h
  · split at h
    · rcases funNil_ok h hx with ⟨rfl, _⟩ | ⟨f, p, q, rfl, _⟩ <;> exact .inl rfl
    · cases hx; exact .inl rfl
    · cases h
  · cases h

theorem eqV_num {T : TypeId} {x y : Value} {a b : AV} {r : Bool} (h : eqV P T a b = some r) (hx : VR F S x a) (hy : VR F S y b) :
    nonnum x = true ∨ (∃ k m n, a = .v (.int k m) ∧ b = .v (.int k n)) ∨ ∃ l m, a = .s l ∧ b = .s m := by
  unfold eqV at h
  split at h
  · cases hx; exact .inl rfl
  · exact plainEq_num h hx hy

theorem equal_ok {T : TypeId} {x y : Value} {a b : AV} {r : Bool} (h : eqV P T a b = some r) (hx : VR F S x a) (hy : VR F S y b) : (Op.equal T x y).run P w = .ok r w := by
  unfold Op.equal; rw [maxDepth_eq]; exact eqV_ok h hx hy

theorem binV_ok {op : BinOp} {T : TypeId} {p q : Operand} {x y : Value} {a b av : AV} (h : binV P op T a b = some av) (hx : VR F S x a) (hy : VR F S y b) :
    ∃ v, (do eqGuard op T p q x y; binOp op T x y : Sem Value).run P w = .ok v w ∧ VR F S v av := by
  unfold binV at h
  split at h
  · split at h
    · rename_i e; subst e
      cases hx; cases hy
      rw [Sem.run_bind, eqGuard_plain (by simp) (by simp)]
      exact intV_ok h T
    · cases hx; cases hy
      rw [Sem.run_bind, eqGuard_plain (by simp) (by simp)]
      exact shiftV_ok h T
  · cases hx; cases hy
    rw [Sem.run_bind, eqGuard_plain (by simp) (by simp)]
    exact strV_ok h T
  · rename_i hne1 hne2
    rw [Option.map_eq_some_iff] at h
    obtain ⟨r, h, rfl⟩ := h
    rw [Sem.run_bind, eqGuard_ok h hx hy]
    refine ⟨.bool r, ?_, .v _⟩
    simp only [Result.andThen_ok]
    rcases eqV_num h hx hy with hn | ⟨k, m, n, rfl, rfl⟩ | ⟨l, m, rfl, rfl⟩
    · rw [binOp_eql hn, Sem.run_bind, equal_ok h hx hy]; rfl
    · exact absurd rfl (hne1 _ _ _ _ rfl)
    · exact absurd rfl (hne2 _ _ rfl)
  · rename_i hne1 hne2
    rw [Option.map_eq_some_iff] at h
    obtain ⟨r, h, rfl⟩ := h
    rw [Sem.run_bind, eqGuard_ok h hx hy]
    refine ⟨.bool (!r), ?_, .v _⟩
    simp only [Result.andThen_ok]
    rcases eqV_num h hx hy with hn | ⟨k, m, n, rfl, rfl⟩ | ⟨l, m, rfl, rfl⟩
    · rw [binOp_neq hn, Sem.run_bind, equal_ok h hx hy]; rfl
    · exact absurd rfl (hne1 _ _ _ _ rfl)
    · exact absurd rfl (hne2 _ _ rfl)
  · cases h

theorem unV_ok {op : UnOp} {x : Value} {a av : AV} (h : unV op a = some av) (hx : VR F S x a) : ∃ v, (Op.unary op x).run P w = .ok v w ∧ VR F S v av := by
  unfold unV at h
  split at h
  · cases h; cases hx; exact ⟨_, rfl, .v _⟩
  · cases h; cases hx; exact ⟨_, by simp [Op.unary, Op.intArith], .v _⟩
  · cases h


def fieldV (P : Program) (T : TypeId) (i : Nat) : Option (Nat × TypeId × Nat × Bool) :=
  match P.underlying T with
  | some (.struct fs) => match fs[i]? with
    | some f => match P.info? f.type, P.underlying f.type with
      | some inf, some _ => some (f.offset, f.type, inf.size, aggT P f.type)
      | _, _ => none
    | none => none
  | _ => none

def AV.addOff (off size : Nat) : AV → Option AV
  | .v (.pointer (some ⟨b, o, none⟩)) => some (.v (.pointer (some ⟨b, o + off, none⟩)))
  | .fp cs => if off + size ≤ cs.length then some (.fp ((cs.drop off).take size)) else none
  | .rp b sz i o => some (.rp b sz i (o + off))
  | _ => none

def fieldAddrV (P : Program) (T : TypeId) (i : Nat) (x : AV) : Option AV :=
  match fieldV P T i with
  | some (off, _, size, _) => if size = 0 then none else x.addOff off size
  | none => none

def fieldValV (P : Program) (T : TypeId) (i : Nat) (x : AV) : Option AV :=
  match x, fieldV P T i with
  | .agg cs, some (off, _, size, true) => if off + size ≤ cs.length then some (.agg ((cs.drop off).take size)) else none
  | .agg cs, some (off, _, _, false) => cs[off]?
  | _, _ => none

theorem CRs.take {ad : Addr} {j : Nat} {cs : List AV} (h : CRs F S ad j cs) (n : Nat) : CRs F S ad j (cs.take n) :=
  CRs.of_get _ _ (fun i a hi => by
    rw [List.getElem?_take] at hi
    split at hi
    · exact h.get i a hi
    · cases hi)

theorem addOff_ok {off size : Nat} {x : Value} {a av : AV} (h : a.addOff off size = some av) (hx : VR F S x a) : ∃ ad, x = .pointer (some ad) ∧ VR F S (.pointer (some (ad.add off))) av := by
  unfold AV.addOff at h
  split at h
  · cases h; cases hx; exact ⟨_, rfl, by rw [add_none]; exact .v _⟩
  · split at h
    · cases h; cases hx
      rename_i cs hle ad hc
      refine ⟨ad, rfl, .fp ?_⟩
      have h1 := (hc.drop off).take size
      rw [Nat.zero_add] at h1
      exact CRs.shift (j := off) (k := 0) h1
    · cases h
  · cases h; cases hx; exact ⟨_, rfl, by rw [add_none, Nat.add_assoc]; exact .rp⟩
  · cases h

theorem fieldAddrV_ok {T : TypeId} {i : Nat} {x : Value} {a av : AV} (h : fieldAddrV P T i a = some av) (hx : VR F S x a) :
    ∃ v, (Instr.fieldAt T x i).run P w = .ok v w ∧ VR F S v av := by
  unfold fieldAddrV at h
  split at h
  · rename_i off ft size ag hf
    split at h
    · cases h
    · rename_i hsz
      obtain ⟨ad, rfl, hv⟩ := addOff_ok h hx
      unfold fieldV at hf
      split at hf
      · rename_i fs hu
        split at hf
        · rename_i f hfi
          split at hf
          · rename_i inf d hinf hd
            cases hf
            refine ⟨_, ?_, hv⟩
            unfold Instr.fieldAt fieldPlace
            simp only [Sem.run_bind, run_und hu, Result.andThen_ok, hfi, Instr.sureAddr, Sem.run_pure, run_sizeOf hinf, if_neg hsz]
          · cases hf
        · cases hf
      · cases hf
  · cases h

theorem fieldValV_ok {T : TypeId} {i : Nat} {x : Value} {a av : AV} (h : fieldValV P T i a = some av) (hx : VR F S x a) :
    ∃ v, (Instr.field T x i).run P w = .ok v w ∧ VR F S v av := by
  unfold fieldValV at h
  split at h
  · rename_i cs off ft size hf
    split at h
    · rename_i hle
      cases h; cases hx
      rename_i vs hvs
      unfold fieldV at hf
      split at hf
      · rename_i fs hu
        split at hf
        · rename_i f hfi
          split at hf
          · rename_i inf d hinf hd
            simp only [Option.some.injEq, Prod.mk.injEq] at hf
            obtain ⟨rfl, rfl, rfl, hag⟩ := hf
            refine ⟨.agg ⟨(vs.drop f.offset).take inf.size⟩, ?_, .agg ((hvs.drop _).take _)⟩
            unfold Instr.field part
            simp only [Sem.run_bind, run_und hu, Result.andThen_ok, hfi, asAgg, Sem.run_pure, run_isAgg hd, hag, if_true, run_sizeOf hinf]
            congr 2
            apply Array.ext'
            simp [List.drop_take]
          · cases hf
        · cases hf
      · cases hf
    · cases h
  · rename_i cs off ft size hf
    cases hx
    rename_i vs hvs
    unfold fieldV at hf
    split at hf
    · rename_i fs hu
      split at hf
      · rename_i f hfi
        split at hf
        · rename_i inf d hinf hd
          simp only [Option.some.injEq, Prod.mk.injEq] at hf
          obtain ⟨rfl, rfl, rfl, hag⟩ := hf
          obtain ⟨v, h1, h2⟩ := hvs.get _ _ h
          refine ⟨v, ?_, h2⟩
          unfold Instr.field
          simp only [Sem.run_bind, run_und hu, Result.andThen_ok, hfi, asAgg, Sem.run_pure]
          exact run_part hag ⟨d, hd⟩ _ _ _ (by simpa using h1)
        · cases hf
      · cases hf
    · cases hf
  · cases h

end
end Go.AL

/-
  AL, part e: indexes, slices, lengths, maps that are read; 'pv'.
-/
set_option linter.unusedSimpArgs false
set_option linter.unusedVariables false
namespace Go.AL
open Go

section
variable {F : Addr → Value → Prop} {S : Nat → Nat → Prop} {P : Program} {w : World}

def indexAddrV (P : Program) (T : TypeId) (x ix : AV) : Option AV :=
  match ix with
  | .v (.int _ i) => if 0 ≤ i then
      match P.underlying T with
      | some (.slice e) => match P.info? e, x with
        | some inf, .sl _ es => match es[i.toNat]? with
          | some c => if c.length = inf.size then some (.fp c) else none
          | none => none
        | some inf, .row b sz n => if i < n ∧ sz = inf.size then some (.rp b sz i.toNat 0) else none
        | some inf, .vw b sz off n => if i < n ∧ sz = inf.size then some (.rp b sz (off + i.toNat) 0) else none
        | _, _ => none
      | some (.array n e) => match P.info? e with
        | some inf => if i < n then x.addOff (i.toNat * inf.size) inf.size else none
        | none => none
      | _ => none
    else none
  | _ => none

theorem indexAddrV_ok {T : TypeId} {x ix : Value} {a ai av : AV} (h : indexAddrV P T a ai = some av) (hx : VR F S x a) (hi : VR F S ix ai) :
    ∃ v, (Instr.indexAt T x ix).run P w = .ok v w ∧ VR F S v av := by
  unfold indexAddrV at h
  split at h
  · rename_i k i
    cases hi
    split at h
    · rename_i h0
      split at h
      · rename_i e hu
        split at h
        · rename_i inf t es hinf
          split at h
          · rename_i c hc
            split at h
            · rename_i hlen
              cases h
              have hlt : i.toNat < es.length := (List.getElem?_eq_some_iff.1 hc).1
              have hlt' : i < (es.length : Int) := by omega
              cases hx
              · simp at hc
              · rename_i ad sz cap hers hcap htt
                obtain ⟨h1, h2⟩ := hers.get _ _ hc
                rw [Nat.zero_add, ← h1, hlen] at h2
                refine ⟨.pointer (some (ad.add (i.toNat * inf.size))), ?_, .fp (CRs.shift (j := i.toNat * inf.size) (k := 0) (by rwa [Nat.add_zero]))⟩
                unfold Instr.indexAt
                simp only [Sem.run_bind, asIntOf, Sem.run_pure, Result.andThen_ok, run_und hu, if_pos (And.intro h0 hlt'), run_sizeOf hinf]
            · cases h
          · cases h
        · rename_i inf b sz n hinf
          split at h
          · rename_i hc
            obtain ⟨hc1, hc2⟩ := hc
            cases h
            cases hx
            refine ⟨.pointer (some ⟨b, i.toNat * sz + 0, none⟩), ?_, .rp⟩
            unfold Instr.indexAt
            simp only [Sem.run_bind, asIntOf, Sem.run_pure, Result.andThen_ok, run_und hu, if_pos (And.intro h0 hc1), run_sizeOf hinf, ← hc2, add_none, Nat.zero_add, Nat.add_zero]
          · cases h
        · rename_i inf b sz off n hinf
          split at h
          · rename_i hc
            obtain ⟨hc1, hc2⟩ := hc
            cases h
            cases hx
            rename_i cap size p hs hsz hp hn
            have hp := hp (by omega)
            subst hp
            refine ⟨.pointer (some ⟨b, (off + i.toNat) * sz + 0, none⟩), ?_, .rp⟩
            unfold Instr.indexAt
            simp only [Sem.run_bind, asIntOf, Sem.run_pure, Result.andThen_ok, run_und hu, if_pos (And.intro h0 hc1), run_sizeOf hinf, ← hc2, add_none, Nat.add_zero, Nat.add_mul]
          · cases h
        · cases h
      · rename_i n e hu
        split at h
        · rename_i inf hinf
          split at h
          · rename_i hlt
            obtain ⟨ad, rfl, hv⟩ := addOff_ok h hx
            refine ⟨_, ?_, hv⟩
            unfold Instr.indexAt
            simp only [Sem.run_bind, asIntOf, Sem.run_pure, Result.andThen_ok, run_und hu, Instr.sureAddr, if_pos (And.intro h0 hlt), run_sizeOf hinf]
          · cases h
        · cases h
      · cases h
    · cases h
  · cases h

def indexV (P : Program) (T : TypeId) (x ix : AV) : Option AV :=
  match ix with
  | .v (.int _ i) => if 0 ≤ i then
      match P.underlying T, x with
      | some .string, .s l => (l[i.toNat]?).map fun c => .v (.int .u8 c.toNat)
      | some (.array n e), .agg cs => match P.info? e, P.underlying e with
        | some inf, some _ => if i < n then (if aggT P e then (if i.toNat * inf.size + inf.size ≤ cs.length then some (.agg ((cs.drop (i.toNat * inf.size)).take inf.size)) else none) else cs[i.toNat * inf.size]?) else none
        | _, _ => none
      | _, _ => none
    else none
  | _ => none

theorem indexV_ok {T : TypeId} {x ix : Value} {a ai av : AV} (h : indexV P T a ai = some av) (hx : VR F S x a) (hi : VR F S ix ai) :
    ∃ v, (Instr.index T x ix).run P w = .ok v w ∧ VR F S v av := by
  unfold indexV at h
  split at h
  · rename_i k i
    cases hi
    split at h
    · rename_i h0
      split at h
      · rename_i l hu
        cases hx
        rename_i s
        rw [Option.map_eq_some_iff] at h
        obtain ⟨c, hc, rfl⟩ := h
        refine ⟨.int .u8 c.toNat, ?_, .v _⟩
        unfold Instr.index
        have : s[i.toNat]? = some c := by
          rw [Array.getElem?_toList] at hc
          obtain ⟨d⟩ := s
          exact hc
        simp only [Sem.run_bind, asIntOf, Sem.run_pure, Result.andThen_ok, run_und hu, if_pos h0, this]
      · rename_i n e cs hu
        cases hx
        rename_i vs hvs
        split at h
        · rename_i inf d hinf hd
          split at h
          · rename_i hlt
            split at h
            · rename_i hag
              split at h
              · rename_i hle
                cases h
                refine ⟨.agg ⟨(vs.drop (i.toNat * inf.size)).take inf.size⟩, ?_, .agg ((hvs.drop _).take _)⟩
                unfold Instr.index part
                simp only [Sem.run_bind, asIntOf, Sem.run_pure, Result.andThen_ok, run_und hu, if_pos (And.intro h0 hlt), run_sizeOf hinf, run_isAgg hd, hag, if_true]
                congr 2
                apply Array.ext'
                simp [List.drop_take]
              · cases h
            · rename_i hag
              obtain ⟨v, h1, h2⟩ := hvs.get _ _ h
              refine ⟨v, ?_, h2⟩
              unfold Instr.index
              simp only [Sem.run_bind, asIntOf, Sem.run_pure, Result.andThen_ok, run_und hu, if_pos (And.intro h0 hlt), run_sizeOf hinf]
              exact run_part (by simpa using hag) ⟨d, hd⟩ _ _ _ (by simpa using h1)
          · cases h
        · cases h
      · cases h
    · cases h
  · cases h

def boundV : Option AV → Nat → Option Nat
  | none, d => some d
  | some (.v (.int _ i)), _ => if 0 ≤ i then some i.toNat else none
  | some _, _ => none

def sliceV (P : Program) (T : TypeId) (x : AV) (lo hi mx : Option AV) : Option AV :=
  match P.underlying T, x with
  | some .string, .s l => match boundV lo 0, boundV hi l.length, mx with
    | some a, some b, none => if a ≤ b ∧ b ≤ l.length then some (.s ((l.take b).drop a)) else none
    | _, _, _ => none
  | some (.slice e), .sl t es => match P.info? e, boundV lo 0, boundV hi es.length, mx with
    | some inf, some a, some b, none => if a ≤ b ∧ b ≤ es.length ∧ es.all (fun c => c.length == inf.size) then some (.sl (t && (b == es.length)) ((es.take b).drop a)) else none
    | some inf, some a, some b, some m => match hi, boundV (some m) 0 with
      | some _, some c => if a ≤ b ∧ b = c ∧ b ≤ es.length ∧ es.all (fun c => c.length == inf.size) then some (.sl true ((es.take b).drop a)) else none
      | _, _ => none
    | _, _, _, _ => none
  | some (.slice e), .row b sz n => match P.info? e, lo, mx, hi with
    | some _, none, none, some (.v (.int _ i)) => if 0 ≤ i ∧ i ≤ n then some (.row b sz i.toNat) else none
    | some inf, some l, none, hi => match boundV (some l) 0, boundV hi n with
      | some a, some c => if a ≤ c ∧ c ≤ n ∧ sz = inf.size then some (.vw b sz a (c - a)) else none
      | _, _ => none
    | _, _, _, _ => none
  | some (.slice e), .vw b sz off n => match P.info? e, boundV lo 0, mx, boundV hi n with
    | some inf, some a, none, some c => if a ≤ c ∧ c ≤ n ∧ sz = inf.size then some (.vw b sz (off + a) (c - a)) else none
    | _, _, _, _ => none
  | _, _ => none

def OVR (F : Addr → Value → Prop) (S : Nat → Nat → Prop) (o : Option Value) (a : Option AV) : Prop := match o, a with | some x, some b => VR F S x b | none, none => True | _, _ => False

theorem bound_cases {o : Option Value} {a : Option AV} {d n : Nat} (h : boundV a d = some n) (hr : OVR F S o a) : (o = none ∧ n = d) ∨ ∃ k i, o = some (.int k i) ∧ 0 ≤ i ∧ n = i.toNat := by
  cases o with
  | none =>
    cases a with
    | none => simp only [boundV, Option.some.injEq] at h; exact .inl ⟨rfl, h.symm⟩
    | some b => exact hr.elim
  | some v =>
    cases a with
    | none => exact hr.elim
    | some b =>
      have hr' : VR F S v b := hr
      unfold boundV at h
      split at h
      · rename_i e; cases e
      · rename_i k i e
        cases e
        cases hr'
        split at h
        · rename_i h0
          cases h
          exact .inr ⟨k, i, rfl, h0, rfl⟩
        · cases h
      · cases h

theorem run_bound {k : IntKind} {i : Int} {y : Nat} {code : BoundsCode} (h0 : 0 ≤ i) (h : i.toNat ≤ y) : (Instr.sliceBound (.int k i) y code).run P w = .ok i.toNat w := by
  have hc : 0 ≤ i ∧ i ≤ (y : Int) := ⟨h0, by omega⟩
  simp only [Instr.sliceBound, asIntOf, Sem.run_bind, Sem.run_pure, Result.andThen_ok, if_pos hc]

theorem run_bounds2 {is : Bool} {len cap l h : Nat} {lo hi : Option Value} (hl : (lo = none ∧ l = 0) ∨ ∃ k i, lo = some (.int k i) ∧ 0 ≤ i ∧ l = i.toNat)
    (hh : (hi = none ∧ h = len) ∨ ∃ k i, hi = some (.int k i) ∧ 0 ≤ i ∧ h = i.toNat) (h1 : l ≤ h) (h2 : h ≤ cap) : (Instr.sliceBounds is len cap lo hi none).run P w = .ok (l, h, cap) w := by
  unfold Instr.sliceBounds
  rcases hh with ⟨rfl, rfl⟩ | ⟨k, i, rfl, hi0, rfl⟩ <;> rcases hl with ⟨rfl, rfl⟩ | ⟨k', i', rfl, hl0, rfl⟩ <;>
    simp only [Sem.run_bind, Sem.run_pure, Result.andThen_ok, run_bound hl0 h1, run_bound hi0 h2, Option.isSome_none, Bool.false_eq_true, if_false] <;>
    first | (simp only [run_bound hi0 h2, run_bound hl0 h1, Result.andThen_ok]; done) | (simp only [run_bound hl0 h1, Result.andThen_ok]; done) | (simp only [run_bound hi0 h2, Result.andThen_ok]; done) | skip

theorem run_bounds3 {is : Bool} {len cap l h m : Nat} {lo : Option Value} {k k' : IntKind} {i i' : Int} (hl : (lo = none ∧ l = 0) ∨ ∃ k i, lo = some (.int k i) ∧ 0 ≤ i ∧ l = i.toNat)
    (hi0 : 0 ≤ i) (hh : h = i.toNat) (hm0 : 0 ≤ i') (hm : m = i'.toNat) (h1 : l ≤ h) (h2 : h ≤ m) (h3 : m ≤ cap) : (Instr.sliceBounds is len cap lo (some (.int k i)) (some (.int k' i'))).run P w = .ok (l, h, m) w := by
  unfold Instr.sliceBounds
  subst hh hm
  rcases hl with ⟨rfl, rfl⟩ | ⟨k', i', rfl, hl0, rfl⟩ <;>
    simp only [Sem.run_bind, Sem.run_pure, Result.andThen_ok, run_bound hi0 h2, run_bound hm0 h3]
  rw [run_bound hl0 h1]
  rfl

theorem ERs.slice {ad : Addr} {sz : Nat} {es : List (List AV)} (h : ERs F S ad sz 0 es) (a b : Nat) : ERs F S (ad.add (a * sz)) sz 0 ((es.take b).drop a) :=
  ERs.of_get _ _ (fun k e hk => by
    rw [List.getElem?_drop, List.getElem?_take] at hk
    split at hk
    · obtain ⟨h1, h2⟩ := h.get _ _ hk
      refine ⟨h1, CRs.shift (j := a * sz) (k := (0 + k) * sz) ?_⟩
      rw [Nat.zero_add, ← Nat.add_mul]
      rwa [Nat.zero_add] at h2
    · cases hk)

theorem slice_val {t t' : Bool} {es : List (List AV)} {x : Value} {size a b m : Nat} (hx : VR F S x (.sl t es)) (hall : es.all (fun c => c.length == size) = true) (hab : a ≤ b) (hb : b ≤ es.length)
    (hm : ∀ ad n cap, x = .slice ad n cap → b ≤ m ∧ m ≤ cap) (ht : t' = true → ∀ ad n cap, x = .slice ad n cap → m = b) :
    ∃ ad n cap, x = .slice ad n cap ∧ n = es.length ∧ n ≤ cap ∧ (t = true → cap = n) ∧ VR F S (.slice (if m = a then ad else ad.map (·.add (a * size))) (b - a) (m - a)) (.sl t' ((es.take b).drop a)) := by
  cases hx
  · obtain ⟨h1, h2⟩ := hm _ _ _ rfl
    have hb0 : b = 0 := by simpa using hb
    subst hb0
    have ha0 : a = 0 := by omega
    have hm0 : m = 0 := by omega
    subst ha0 hm0
    exact ⟨none, 0, 0, rfl, rfl, Nat.le_refl _, fun _ => rfl, by simpa using VR.slnil _⟩
  · rename_i ad sz cap hers hcap htt
    obtain ⟨h1, h2⟩ := hm _ _ _ rfl
    refine ⟨some ad, es.length, cap, rfl, rfl, hcap, htt, ?_⟩
    have hlen : ((es.take b).drop a).length = b - a := by simp; omega
    by_cases hma : m = a
    · rw [if_pos hma]
      have hba : b = a := by omega
      subst hma hba
      have he : (es.take b).drop b = [] := by simp
      rw [he]
      have := VR.sl (F := F) (S := S) (ad := ad) (sz := sz) (cap := b - b) (t := t') (es := []) .nil (Nat.zero_le _) (fun _ => by simp)
      simpa using this
    · rw [if_neg hma]
      simp only [Option.map_some]
      have hsz : ERs F S (ad.add (a * size)) size 0 ((es.take b).drop a) := by
        cases es with
        | nil => simp; exact .nil
        | cons e es =>
          have e1 := (hers.get 0 e rfl).1
          simp only [List.all_cons, Bool.and_eq_true, beq_iff_eq] at hall
          rw [← e1.symm.trans hall.1]
          exact hers.slice a b
      have := VR.sl (F := F) (S := S) (cap := m - a) (t := t') hsz (by rw [hlen]; omega) (fun e => by have := ht e _ _ _ rfl; rw [hlen]; omega)
      rwa [hlen] at this

theorem sliceV_ok {T : TypeId} {x : Value} {lo hi mx : Option Value} {a av : AV} {la ha ma : Option AV} (h : sliceV P T a la ha ma = some av) (hx : VR F S x a) (hl : OVR F S lo la) (hh : OVR F S hi ha) (hm : OVR F S mx ma) :
    ∃ v, (Instr.slice T x lo hi mx).run P w = .ok v w ∧ VR F S v av := by
  unfold sliceV at h
  split at h
  · rename_i l hu
    cases hx
    rename_i s
    split at h
    · rename_i i j e1 e2
      split at h
      · rename_i hc
        obtain ⟨hij, hj⟩ := hc
        cases h
        cases mx with
        | some m => exact hm.elim
        | none =>
          have hsz : s.data.toList.length = s.size := by rw [Array.length_toList]; rfl
          rw [hsz] at e2 hj
          refine ⟨.string (s.extract i j), ?_, ?_⟩
          · unfold Instr.slice
            simp only [Sem.run_bind, run_und hu, Result.andThen_ok, Option.isSome_none, Bool.false_eq_true, if_false, run_bounds2 (bound_cases e1 hl) (bound_cases e2 hh) hij hj]
            rfl
          · have := VR.s (F := F) (S := S) (s.extract i j)
            rwa [show (s.extract i j).data.toList = (s.data.toList.take j).drop i from by
              rw [ByteArray.data_extract, Array.toList_extract, List.extract_eq_take_drop, List.drop_take]] at this
      · cases h
    · cases h
  · rename_i e t es hu
    split at h
    · rename_i inf i j hinf e1 e2
      split at h
      · rename_i hc
        obtain ⟨hij, hj, hall⟩ := hc
        cases h
        cases mx with
        | some m => exact hm.elim
        | none =>
          have hcap : ∃ ad n cap, x = .slice ad n cap ∧ es.length ≤ cap ∧ n = es.length := by
            cases hx
            · exact ⟨_, _, _, rfl, Nat.le_refl _, rfl⟩
            · rename_i hcap _; exact ⟨_, _, _, rfl, hcap, rfl⟩
          obtain ⟨ad0, n0, cap0, rfl, hcap0, hn0⟩ := hcap
          obtain ⟨ad, n, cap, e3, rfl, hnc, htt, hv⟩ := slice_val (t' := t && (j == es.length)) (m := cap0) hx hall hij hj (fun ad n cap e => by cases e; exact ⟨by omega, Nat.le_refl _⟩) (fun ht ad n cap e => by
            cases e
            simp only [Bool.and_eq_true, beq_iff_eq] at ht
            obtain ⟨h1, h2⟩ := ht
            subst h1
            cases hx
            · simp at h2; omega
            · rename_i ad sz cap hers hcap htt; rw [htt rfl]; exact h2.symm)
          cases e3
          refine ⟨_, ?_, hv⟩
          unfold Instr.slice
          simp only [Sem.run_bind, run_und hu, Result.andThen_ok, run_bounds2 (bound_cases e1 hl) (bound_cases e2 hh) hij (Nat.le_trans hj hcap0), run_sizeOf hinf]
          rfl
      · cases h
    · rename_i inf i j m hinf e1 e2
      split at h
      · rename_i hb c e3
        split at h
        · rename_i hc
          obtain ⟨hij, rfl, hj, hall⟩ := hc
          cases h
          have hcap : ∃ ad n cap, x = .slice ad n cap ∧ es.length ≤ cap ∧ n = es.length := by
            cases hx
            · exact ⟨_, _, _, rfl, Nat.le_refl _, rfl⟩
            · rename_i hcap _; exact ⟨_, _, _, rfl, hcap, rfl⟩
          obtain ⟨ad0, n0, cap0, rfl, hcap0, hn0⟩ := hcap
          obtain ⟨ad, n, cap, e4, rfl, hnc, htt, hv⟩ := slice_val (t' := true) (m := j) hx hall hij hj (fun ad n cap e => by cases e; exact ⟨Nat.le_refl _, by omega⟩) (fun _ _ _ _ _ => rfl)
          cases e4
          rcases bound_cases e2 hh with ⟨_, e5⟩ | ⟨k, iv, rfl, hi0, e5⟩
          · cases hi with
            | some y => cases ‹some y = none›
            | none => exact hh.elim
          rcases bound_cases e3 hm with ⟨_, e6⟩ | ⟨k', iv', rfl, hm0, e6⟩
          · cases mx with
            | some y => cases ‹some y = none›
            | none => exact hm.elim
          refine ⟨_, ?_, hv⟩
          unfold Instr.slice
          simp only [Sem.run_bind, run_und hu, Result.andThen_ok, run_bounds3 (bound_cases e1 hl) hi0 e5 hm0 e6 hij (Nat.le_refl _) (Nat.le_trans hj hcap0), run_sizeOf hinf]
          rfl
        · cases h
      · cases h
    · cases h
  · rename_i e b sz n hu
    split at h
    · rename_i inf kk i hinf
      split at h
      · rename_i hc
        obtain ⟨h0, hn⟩ := hc
        cases h
        cases hx
        rename_i cap size hs hnc hle
        cases lo with
        | some _ => exact hl.elim
        | none => cases mx with
          | some _ => exact hm.elim
          | none => cases hi with
            | none => exact hh.elim
            | some y =>
              have hh' : VR F S y (.v (.int kk i)) := hh
              cases hh'
              refine ⟨.slice (some ⟨b, 0, none⟩) i.toNat cap, ?_, .row hs hnc (by omega)⟩
              unfold Instr.slice
              simp only [Sem.run_bind, run_und hu, Result.andThen_ok, run_bounds2 (l := 0) (h := i.toNat) (.inl ⟨rfl, rfl⟩) (.inr ⟨_, _, rfl, h0, rfl⟩) (Nat.zero_le _) (show i.toNat ≤ cap by omega), run_sizeOf hinf, Sem.run_pure, Nat.zero_mul, Nat.sub_zero, Option.map_some]
              have e0 : ∀ a : Addr, a.add 0 = a := fun a => by simp [Addr.add]
              rw [e0, ite_self]
      · cases h
    · rename_i inf l hinf
      split at h
      · rename_i a c e1 e2
        split at h
        · rename_i hc
          obtain ⟨hac, hcn, hsz⟩ := hc
          cases h
          cases hx
          rename_i cap size hs hnc hle
          cases mx with
          | some _ => exact hm.elim
          | none =>
            refine ⟨.slice (if cap - a = 0 then some ⟨b, 0, none⟩ else (some ⟨b, 0, none⟩ : Option Addr).map (·.add (a * inf.size))) (c - a) (cap - a), ?_, ?_⟩
            · unfold Instr.slice
              simp only [Sem.run_bind, run_und hu, Result.andThen_ok, run_bounds2 (bound_cases e1 hl) (bound_cases e2 hh) hac (Nat.le_trans hcn hle), run_sizeOf hinf, Sem.run_pure]
              have e0 : (cap = a) ↔ (cap - a = 0) := by omega
              by_cases hz : cap = a
              · rw [if_pos hz, if_pos (e0.1 hz)]
              · rw [if_neg hz, if_neg (fun h => hz (e0.2 h))]
            · have hq : size = (a + (cap - a)) * sz := by rw [hnc]; congr 1; omega
              by_cases hz : cap - a = 0
              · rw [if_pos hz]
                exact .vw hs hq (by omega) (fun h => by omega)
              · rw [if_neg hz]
                have hv := VR.vw (F := F) (S := S) (b := b) (sz := sz) (off := a) (n := c - a) (cap := cap - a) (size := size) (p := 0 + a * inf.size) hs hq (by omega) (fun h => by rw [Nat.zero_add, hsz])
                simp only [Option.map_some, add_none]
                exact hv
        · cases h
      · cases h
    · cases h
  · rename_i e b sz off n hu
    split at h
    · rename_i inf a c hinf e1 e2
      split at h
      · rename_i hc
        obtain ⟨hac, hcn, hsz⟩ := hc
        cases h
        cases hx
        rename_i cap size p hs hnc hp hle
        cases mx with
        | some _ => exact hm.elim
        | none =>
          refine ⟨.slice (if cap - a = 0 then some ⟨b, p, none⟩ else (some ⟨b, p, none⟩ : Option Addr).map (·.add (a * inf.size))) (c - a) (cap - a), ?_, ?_⟩
          · unfold Instr.slice
            simp only [Sem.run_bind, run_und hu, Result.andThen_ok, run_bounds2 (bound_cases e1 hl) (bound_cases e2 hh) hac (Nat.le_trans hcn hle), run_sizeOf hinf, Sem.run_pure]
            have e0 : (cap = a) ↔ (cap - a = 0) := by omega
            by_cases hz : cap = a
            · rw [if_pos hz, if_pos (e0.1 hz)]
            · rw [if_neg hz, if_neg (fun h => hz (e0.2 h))]
          · have hq : size = (off + a + (cap - a)) * sz := by rw [hnc]; congr 1; omega
            by_cases hz : cap - a = 0
            · rw [if_pos hz]
              exact .vw hs hq (by omega) (fun h => by omega)
            · rw [if_neg hz]
              have hv := VR.vw (F := F) (S := S) (b := b) (sz := sz) (off := off + a) (n := c - a) (cap := cap - a) (size := size) (p := p + a * inf.size) hs hq (by omega) (fun h => by rw [hp (by omega), hsz, Nat.add_mul])
              simp only [Option.map_some, add_none]
              exact hv
      · cases h
    · cases h
  · cases h

end
end Go.AL

/-
  AL, part f: lengths, maps that are read, 'pv'.
-/
set_option linter.unusedSimpArgs false
set_option linter.unusedVariables false
namespace Go.AL
open Go

section
variable {F : Addr → Value → Prop} {S : Nat → Nat → Prop} {P : Program} {w : World}

def kfind {κ : Type} [DecidableEq κ] (k : κ) : List (κ × AV) → Option AV
  | [] => none
  | p :: es => if p.1 = k then some p.2 else kfind k es

structure KeyKind (κ : Type) [DecidableEq κ] where
  enc : κ → Value
  av : κ → AV
  und : TypeDesc
  inv : ∀ {F S x k}, VR F S x (av k) → x = enc k
  same : ∀ a b, Instr.sameNow und (enc a) (enc b) = some (decide (a = b))
  plain : (∀ ms, und ≠ .interface ms) ∧ (∀ n e, und ≠ .array n e) ∧ (∀ fs, und ≠ .struct fs)
  bits : ∀ a n, Instr.sameBits n (enc a) (enc a) = true

theorem sb_inj {b : ByteArray} {l : List UInt8} (h : b.data.toList = l) : b = ⟨l.toArray⟩ := by subst h; cases b; simp

def strKey : KeyKind (List UInt8) where
  enc l := .string ⟨l.toArray⟩
  av l := .s l
  und := .string
  inv := fun {F S x k} h => by cases h; rw [← sb_inj rfl]
  same := fun a b => by
    simp only [Instr.sameNow, Option.some.injEq]
    rw [str_beq]
  plain := ⟨by simp, by simp, by simp⟩
  bits := fun a n => by cases n <;> simp only [Instr.sameBits, str_beq, decide_true]

def intKey (k : IntKind) : KeyKind Int where
  enc n := .int k n
  av n := .v (.int k n)
  und := .int k
  inv := fun {F S x k} h => by cases h; rfl
  same := fun a b => by
    simp only [Instr.sameNow, if_true, Option.some.injEq]
    exact beq_dec a b
  plain := ⟨by simp, by simp, by simp⟩
  bits := fun a n => by cases n <;> simp [Instr.sameBits]

variable {κ : Type} [DecidableEq κ] (K : KeyKind κ)

theorem findNow_ok (k : κ) : ∀ (ents : List MapEntry) (es : List (κ × AV)) (i : Nat), VRs F S (ents.map (·.key)) (es.map fun p => K.av p.1) → VRs F S (ents.map (·.val)) (es.map (·.2)) →
    (kfind k es = none ∧ Instr.findNow K.und (K.enc k) ents i = some none ∧ ∀ p ∈ es, p.1 ≠ k) ∨
    ∃ j e a, kfind k es = some a ∧ Instr.findNow K.und (K.enc k) ents i = some (some (i + j, e.val)) ∧ ents[j]? = some e ∧ es[j]? = some (k, a) ∧ e.key = K.enc k ∧ VR F S e.val a ∧ ∀ p ∈ es.take j, p.1 ≠ k
  | [], [], i, _, _ => .inl ⟨rfl, rfl, by simp⟩
  | e :: ents, [], i, h, _ => by cases h
  | [], p :: es, i, h, _ => by cases h
  | e :: ents, p :: es, i, h1, h2 => by
    cases h1 with
    | cons hk hks =>
      cases h2 with
      | cons hv hvs =>
        have hke : e.key = K.enc p.1 := K.inv hk
        simp only [kfind, Instr.findNow, hke, K.same]
        by_cases he : p.1 = k
        · right
          refine ⟨0, e, p.2, by rw [if_pos he], by rw [he]; simp, rfl, by simp [← he], by rw [hke, he], hv, by simp⟩
        · have hd : decide (k = p.1) = false := decide_eq_false (fun h => he h.symm)
          rw [if_neg he, hd]
          rcases findNow_ok k ents es (i + 1) hks hvs with ⟨g1, g2, g3⟩ | ⟨j, e', a, g1, g2, g3, g4, g5, g6, g7⟩
          · refine .inl ⟨g1, g2, fun q hq => ?_⟩
            rcases List.mem_cons.1 hq with rfl | hq
            · exact he
            · exact g3 q hq
          · refine .inr ⟨j + 1, e', a, g1, by rw [g2, show i + 1 + j = i + (j + 1) from by omega], by simpa using g3, by simpa using g4, g5, g6, fun q hq => ?_⟩
            rw [List.take_succ_cons] at hq
            rcases List.mem_cons.1 hq with rfl | hq
            · exact he
            · exact g7 q hq

theorem run_checkKey {kt : TypeId} (hu : P.underlying kt = some K.und) (b : Bool) (n : Nat) (x : Value) : (Instr.checkKey b (n + 1) kt x).run P w = .ok () w := by
  obtain ⟨h1, h2, h3⟩ := K.plain
  unfold Instr.checkKey
  rw [Sem.run_bind, run_und hu]
  simp only [Result.andThen_ok]
  split
  · exact absurd ‹_› (h1 _)
  · exact absurd ‹_› (h2 _ _)
  · exact absurd ‹_› (h3 _)
  · exact absurd ‹_› (h1 _)
  · exact absurd ‹_› (h1 _)
  · exact absurd ‹_› (h2 _ _)
  · exact absurd ‹_› (h3 _)
  · rfl

def unI (k : IntKind) : List AV → List AV → Option (List (Int × AV))
  | [], [] => some []
  | x :: ks, v :: vs => match x with
    | .v (.int k' n) => if k' = k then (unI k ks vs).map ((n, v) :: ·) else none
    | _ => none
  | _, _ => none
theorem unI_map (k : IntKind) : ∀ es : List (Int × AV), unI k (es.map fun p => .v (.int k p.1)) (es.map (·.2)) = some es
  | [] => rfl
  | p :: es => by simp only [List.map_cons, unI, reduceIte, unI_map k es, Option.map_some]
theorem unI_eq {k : IntKind} : ∀ {ks vs : List AV} {es : List (Int × AV)}, unI k ks vs = some es → ks = es.map (fun p => .v (.int k p.1)) ∧ vs = es.map (·.2)
  | [], [], es, h => by simp only [unI, Option.some.injEq] at h; subst h; exact ⟨rfl, rfl⟩
  | [], _ :: _, _, h => by simp [unI] at h
  | _ :: _, [], _, h => by simp [unI] at h
  | x :: ks, v :: vs, es, h => by
    unfold unI at h
    split at h
    · rename_i k' n
      split at h
      · rename_i e; subst e
        cases hu : unI k' ks vs with
        | none => rw [hu] at h; simp at h
        | some es' =>
          rw [hu] at h
          simp only [Option.map_some, Option.some.injEq] at h
          subst h
          obtain ⟨h1, h2⟩ := unI_eq hu
          subst h1; subst h2
          exact ⟨rfl, rfl⟩
      · cases h
    · cases h

def mgetV (P : Program) (H : AHeap) (kt : TypeId) (x ix : AV) : Option (Option AV) :=
  match x, ix, P.underlying kt with
  | .v (.map none), .s _, some .string => some none
  | .v (.map none), .v (.int k n), some (.int k') => if k = k' then some none else none
  | .v (.map (some b)), .s l, some .string => match H.get b with
    | some (.smap es) => some (kfind l es)
    | _ => none
  | .v (.map (some b)), .v (.int k n), some (.int k') => if k = k' then match H.get b with
    | some (.imap k'' es) => if k = k'' then some (kfind n es) else none
    | some (.kmap _ _ ks vs) => (unI k ks vs).map (kfind n)
    | _ => none
    else none
  | _, _, _ => none

def lookupV (P : Program) (H : AHeap) (T : TypeId) (x ix : AV) (ok : Bool) : Option AV :=
  match P.underlying T with
  | some (.map kt et) => match P.info? et, mgetV P H kt x ix with
    | some inf, some r => match r, inf.zero with
      | some a, _ => some (if ok then .tup [a, .v (.bool true)] else a)
      | none, some z => some (if ok then .tup [.ofC z, .v (.bool false)] else .ofC z)
      | none, none => none
    | _, _ => none
  | _ => none

theorem run_findKey {kt : TypeId} (hu : P.underlying kt = some K.und) {k : κ} {ents : List MapEntry} {r : Option (Nat × Value)} (h : Instr.findNow K.und (K.enc k) ents 0 = some r) (w : World) :
    (Instr.findKey kt (K.enc k) ents).run P w = .ok r w := by
  unfold Instr.findKey
  rw [Sem.run_bind, run_und hu]
  simp only [Result.andThen_ok, h]
  rfl

theorem zero_ok {T : TypeId} {inf : TypeInfo} {z : Value} (h : P.info? T = some inf) (hz : inf.zero = some z) (w : World) : (zeroValue T).run P w = .ok z w := by
  unfold zeroValue typeInfo
  simp [h, hz]

theorem lookup_some {φ : Nat → Nat} {kt et T : TypeId} {inf : TypeInfo} {b : Nat} {k : κ} {es : List (κ × AV)} {ok : Bool} {av : AV} (hT : P.underlying T = some (.map kt et)) (hu : P.underlying kt = some K.und) (hi : P.info? et = some inf)
    (hm : OM w φ b (es.map fun p => K.av p.1) (es.map (·.2)))
    (h : (match kfind k es, inf.zero with
      | some a, _ => some (if ok then AV.tup [a, .v (.bool true)] else a)
      | none, some z => some (if ok then .tup [.ofC z, .v (.bool false)] else .ofC z)
      | none, none => none) = some av) :
    ∃ v, (Instr.lookup T (.map (some b)) (K.enc k) ok).run P w = .ok v w ∧ VR (Fz w φ) (Sh w) v av := by
  obtain ⟨_, ents, clock, hb, h1, h2, _⟩ := hm
  have hg : (getObj b).run P w = .ok (.map ents clock) w := by simp [getObj, Sem.run, hb]
  have hc := run_checkKey (P := P) (w := w) K hu ents.isEmpty 9999 (K.enc k)
  rcases findNow_ok K k ents.toList es 0 h1 h2 with ⟨g1, g2, _⟩ | ⟨j, e, a, g1, g2, g3, g4, g5, g6, _⟩
  · rw [g1] at h
    cases hz : inf.zero with
    | none => rw [hz] at h; cases h
    | some z =>
      rw [hz] at h
      cases h
      have hf := run_findKey K hu g2 w
      refine ⟨if ok then .tuple #[z, .bool false] else z, ?_, ?_⟩
      · unfold Instr.lookup
        simp only [Sem.run_bind, run_und hT, Result.andThen_ok, hg, Sem.run_pure]
        rw [show (10000 : Nat) = 9999 + 1 from rfl, hc]
        simp only [Result.andThen_ok, hf, Sem.run_bind, zero_ok hi hz, Sem.run_pure]
      · cases ok
        · exact .ofC z
        · exact .tup (.cons (.ofC z) (.cons (.v _) .nil))
  · rw [g1] at h
    have hf := run_findKey K hu g2 w
    cases h
    refine ⟨if ok then .tuple #[e.val, .bool true] else e.val, ?_, ?_⟩
    · unfold Instr.lookup
      simp only [Sem.run_bind, run_und hT, Result.andThen_ok, hg, Sem.run_pure]
      rw [show (10000 : Nat) = 9999 + 1 from rfl, hc]
      simp only [Result.andThen_ok, hf, Sem.run_bind, Sem.run_pure]
    · cases ok
      · exact g6
      · exact .tup (.cons g6 (.cons (.v _) .nil))

theorem lookup_none {φ : Nat → Nat} {kt et T : TypeId} {inf : TypeInfo} {k : κ} {ok : Bool} {z : Value} (hT : P.underlying T = some (.map kt et)) (hu : P.underlying kt = some K.und) (hi : P.info? et = some inf) (hz : inf.zero = some z) :
    ∃ v, (Instr.lookup T (.map none) (K.enc k) ok).run P w = .ok v w ∧ VR (Fz w φ) (Sh w) v (if ok then .tup [.ofC z, .v (.bool false)] else .ofC z) := by
  have hc := run_checkKey (P := P) (w := w) K hu true 9999 (K.enc k)
  refine ⟨if ok then .tuple #[z, .bool false] else z, ?_, ?_⟩
  · unfold Instr.lookup
    have hf : (Instr.findKey kt (K.enc k) []).run P w = .ok none w := run_findKey K hu (by rfl) w
    simp only [Sem.run_bind, run_und hT, Result.andThen_ok, Sem.run_pure]
    rw [show (10000 : Nat) = 9999 + 1 from rfl]
    have he : (#[] : Array MapEntry).isEmpty = true := rfl
    rw [he, hc]
    simp only [Result.andThen_ok, hf, Sem.run_bind, zero_ok hi hz, Sem.run_pure]
  · cases ok
    · exact .ofC z
    · exact .tup (.cons (.ofC z) (.cons (.v _) .nil))

theorem lookupV_ok {X : Ctx} {φ : Nat → Nat} {H : AHeap} {T : TypeId} {x ix : Value} {a ai av : AV} {ok : Bool} (h : lookupV P H T a ai ok = some av) (hr : Rel X w φ H) (hx : VR (Fz w φ) (Sh w) x a) (hi : VR (Fz w φ) (Sh w) ix ai) :
    ∃ v, (Instr.lookup T x ix ok).run P w = .ok v w ∧ VR (Fz w φ) (Sh w) v av := by
  unfold lookupV at h
  split at h
  · rename_i kt et hT
    split at h
    · rename_i inf r hinf hg
      unfold mgetV at hg
      split at hg
      · rename_i l hu
        cases hg
        cases hx
        have hi' := strKey.inv hi
        subst hi'
        cases hz : inf.zero with
        | none => rw [hz] at h; cases h
        | some z => rw [hz] at h; cases h; exact lookup_none strKey hT hu hinf hz
      · rename_i k n k' hu
        split at hg
        · rename_i e; subst e
          cases hg
          cases hx
          have hi' := (intKey k).inv hi
          subst hi'
          cases hz : inf.zero with
          | none => rw [hz] at h; cases h
          | some z => rw [hz] at h; cases h; exact lookup_none (intKey k) hT hu hinf hz
        · cases hg
      · rename_i b l hu
        split at hg
        · rename_i es hb
          cases hg
          cases hx
          have hi' := strKey.inv hi
          subst hi'
          exact lookup_some strKey hT hu hinf (hr.obj b _ hb) h
        · cases hg
      · rename_i b k n k' hu
        split at hg
        · rename_i e; subst e
          split at hg
          · rename_i k'' es hb
            split at hg
            · rename_i e; subst e
              cases hg
              cases hx
              have hi' := (intKey k).inv hi
              subst hi'
              exact lookup_some (intKey k) hT hu hinf (hr.obj b _ hb) h
            · cases hg
          · rename_i en cl ks vs hb
            cases hu2 : unI k ks vs with
            | none => rw [hu2] at hg; simp at hg
            | some es =>
              rw [hu2] at hg
              simp only [Option.map_some, Option.some.injEq] at hg
              subst hg
              obtain ⟨hk1, hk2⟩ := unI_eq hu2
              subst hk1; subst hk2
              cases hx
              have hi' := (intKey k).inv hi
              subst hi'
              obtain ⟨h1, h2, h3, h4, h5⟩ := hr.obj b _ hb
              exact lookup_some (intKey k) hT hu hinf ⟨h1, en, cl, h2, h3, h4, h5⟩ h
          · cases hg
        · cases hg
      · cases hg
    · cases h
  · cases h

end
end Go.AL

/-
  AL, part g: struct literals, built-in functions that write nothing; 'pv'.
-/
set_option linter.unusedSimpArgs false
set_option linter.unusedVariables false
namespace Go.AL
open Go

def AV.loose : AV → AV
  | .sl _ es => .sl false es
  | a => a
def AV.cells : AV → Option (List AV)
  | .agg cs => some cs
  | .top => none
  | .tup _ => none
  | .whn .. => none
  | .v (.agg _) => none
  | .v (.tuple _) => none
  | a => some [a]

section
variable {F : Addr → Value → Prop} {S : Nat → Nat → Prop} {P : Program} {w : World}

theorem VR.loose {x : Value} {a : AV} (h : VR F S x a) : VR F S x a.loose := by
  unfold AV.loose
  split
  · cases h
    · exact .slnil _
    · rename_i h1 h2 h3; exact .sl h1 h2 (by simp)
  · exact h

theorem cells_ok {x : Value} {a : AV} {cs : List AV} (h : a.cells = some cs) (hx : VR F S x a) : VRs F S x.cells.toList cs := by
  unfold AV.cells at h
  split at h
  · cases h; cases hx; assumption
  · cases h
  · cases h
  · cases h
  · cases h
  · cases h
  · rename_i h1 h2 h3 h3' h4 h5
    cases h
    have hc : x.cells = #[x] := by
      cases hx <;> first | rfl | (exfalso; apply h1; rfl) | (exfalso; apply h2; rfl) | (exfalso; apply h3'; rfl) | skip
      case v => cases x <;> first | rfl | (exfalso; exact h4 _ rfl)
    rw [hc]
    exact .cons hx .nil

def zC (P : Program) (T : TypeId) : Option (List AV) := (P.info? T).bind fun i => i.zero.map fun z => z.cells.toList.map fun x => AV.ofC x

theorem zC_ok {T : TypeId} {cs : List AV} (h : zC P T = some cs) : ∃ inf z, P.info? T = some inf ∧ inf.zero = some z ∧ (∀ w, (zeroValue T).run P w = .ok z w) ∧ VRs F S z.cells.toList cs := by
  unfold zC at h
  rw [Option.bind_eq_some_iff] at h
  obtain ⟨inf, h1, h⟩ := h
  rw [Option.map_eq_some_iff] at h
  obtain ⟨z, h2, rfl⟩ := h
  exact ⟨inf, z, h1, h2, fun w => zero_ok h1 h2 w, VRs.ofMap (fun x => VR.ofC x) _⟩

def fillA (place : Nat → Option (Nat × Nat)) : List AV → List (Nat × AV) → Option (List AV)
  | cells, [] => some cells
  | cells, (i, v) :: rest => match place i, v.cells with
    | some (off, size), some vs => if vs.length = size ∧ off + size ≤ cells.length then fillA place (cells.take off ++ vs ++ cells.drop (off + size)) rest else none
    | _, _ => none

theorem fold_set (off : Nat) : ∀ (vs : List Value) (k : Nat) (cs : Array Value), off + k + vs.length ≤ cs.size →
    ((vs.zipIdx k).foldl (fun cs (p : Value × Nat) => cs.setIfInBounds (off + p.2) p.1) cs).toList = cs.toList.take (off + k) ++ vs ++ cs.toList.drop (off + k + vs.length)
  | [], k, cs, h => by simp
  | v :: vs, k, cs, h => by
    simp only [List.zipIdx_cons, List.foldl_cons]
    rw [fold_set off vs (k + 1) _ (by simp at h ⊢; omega)]
    simp only [List.length_cons] at h
    have hlt : off + k < cs.toList.length := by simp; omega
    apply List.ext_getElem?
    intro n
    simp only [Array.toList_setIfInBounds, List.length_cons]
    rw [List.append_assoc, List.append_assoc]
    have e1 : (List.take (off + (k + 1)) (cs.toList.set (off + k) v)) = cs.toList.take (off + k) ++ [v] := by
      rw [show off + (k + 1) = off + k + 1 from by omega, List.take_succ_eq_append_getElem (by simpa using hlt)]
      rw [List.take_set_of_le (by omega)]
      simp
    have e2 : List.drop (off + (k + 1) + vs.length) (cs.toList.set (off + k) v) = cs.toList.drop (off + k + (vs.length + 1)) := by
      rw [List.drop_set_of_lt (by omega)]
      congr 1; omega
    rw [e1, e2]
    simp

theorem fill_ok {place : Nat → Option (Nat × Nat)} : ∀ {parts : List (Nat × Value)} {aparts : List (Nat × AV)} {cs : Array Value} {acs out : List AV}, fillA place acs aparts = some out → VRs F S cs.toList acs →
    parts.map (·.1) = aparts.map (·.1) → VRs F S (parts.map (·.2)) (aparts.map (·.2)) → ∃ cs', Instr.fill place cs parts = some cs' ∧ VRs F S cs'.toList out
  | [], [], cs, acs, out, h, hc, _, _ => by simp only [fillA, Option.some.injEq] at h; subst h; exact ⟨cs, rfl, hc⟩
  | [], _ :: _, _, _, _, _, _, hp, _ => by simp at hp
  | _ :: _, [], _, _, _, _, _, hp, _ => by simp at hp
  | (i, v) :: parts, (i', a) :: aparts, cs, acs, out, h, hc, hp, hv => by
    simp only [List.map_cons, List.cons.injEq] at hp
    obtain ⟨rfl, hp⟩ := hp
    simp only [List.map_cons] at hv
    cases hv with
    | cons hv hvs =>
      simp only [fillA] at h
      split at h
      · rename_i off size vs hpl hcl
        split at h
        · rename_i hl
          obtain ⟨hl1, hl2⟩ := hl
          have hcv := cells_ok hcl hv
          have hsz : v.cells.size = size := by have := hcv.len; rw [Array.length_toList] at this; omega
          have hcs : cs.size = acs.length := by rw [← Array.length_toList]; exact hc.len
          unfold Instr.fill
          simp only [hpl]
          have hno : (v.cells.size ≠ size || off + v.cells.size > cs.size) = false := by
            simp only [ne_eq, hsz, not_true_eq_false, decide_false, Bool.false_or, decide_eq_false_iff_not]; omega
          rw [hno]
          simp only [Bool.false_eq_true, if_false]
          have hfold := fold_set off v.cells.toList 0 cs (by simp [hsz]; omega)
          have hzip : v.cells.zipIdx.foldl (fun cs (x : Value × Nat) => cs.setIfInBounds (off + x.2) x.1) cs = (v.cells.toList.zipIdx 0).foldl (fun cs (p : Value × Nat) => cs.setIfInBounds (off + p.2) p.1) cs := by
            rw [← Array.foldl_toList]
            congr 1
            simp
          refine fill_ok (acs := acs.take off ++ vs ++ acs.drop (off + size)) h ?_ hp hvs
          rw [show (Array.foldl (fun cs x => match x with | (c, j) => cs.setIfInBounds (off + j) c) cs v.cells.zipIdx) = v.cells.zipIdx.foldl (fun cs (x : Value × Nat) => cs.setIfInBounds (off + x.2) x.1) cs from rfl, hzip, hfold]
          simp only [Nat.add_zero, Array.length_toList, hsz]
          exact ((hc.take off).append hcv).append (hc.drop (off + size))
        · cases h
      · cases h

def fieldPlaces (P : Program) (fs : List Field) : Option (List (Nat × Nat)) := fs.mapM fun f => (P.info? f.type).map fun i => (f.offset, i.size)

def buildV (P : Program) (T : TypeId) (parts : List (Nat × AV)) : Option AV :=
  match zC P T, P.underlying T with
  | some z, some (.struct fs) => match fieldPlaces P fs.toList with
    | some pl => (fillA (pl[·]?) z parts).map .agg
    | none => none
  | some z, some (.array _ e) => match P.info? e with
    | some inf => (fillA (fun i => some (i * inf.size, inf.size)) z parts).map .agg
    | none => none
  | _, _ => none

theorem run_places : ∀ {fs : List Field} {pl : List (Nat × Nat)}, fieldPlaces P fs = some pl → (fs.mapM (fun f => do pure (f.offset, ← sizeOf f.type) : Field → Sem (Nat × Nat))).run P w = .ok pl w
  | [], pl, h => by simp [fieldPlaces] at h; subst h; rfl
  | f :: fs, pl, h => by
    simp only [fieldPlaces, List.mapM_cons] at h
    cases hi : P.info? f.type with
    | none => rw [hi] at h; simp at h
    | some i =>
      rw [hi] at h
      simp only [Option.map_some, Option.bind_eq_bind, Option.bind_some] at h
      cases hp : List.mapM (fun f => Option.map (fun i => (f.offset, i.size)) (P.info? f.type)) fs with
      | none => rw [hp] at h; simp at h
      | some pl' =>
        rw [hp] at h
        simp at h
        subst h
        have ih := run_places (fs := fs) (pl := pl') hp
        simp only [List.mapM_cons, Sem.run_bind, run_sizeOf hi, Result.andThen_ok, Sem.run_pure]
        rw [ih]
        rfl

theorem buildV_ok {T : TypeId} {parts : List (Nat × Value)} {aparts : List (Nat × AV)} {av : AV} (h : buildV P T aparts = some av) (hp : parts.map (·.1) = aparts.map (·.1)) (hv : VRs F S (parts.map (·.2)) (aparts.map (·.2))) :
    ∃ v, (Instr.build T ⟨parts⟩).run P w = .ok v w ∧ VR F S v av := by
  unfold buildV at h
  split at h
  · rename_i z fs hz hu
    split at h
    · rename_i pl hpl
      rw [Option.map_eq_some_iff] at h
      obtain ⟨out, h, rfl⟩ := h
      obtain ⟨inf, zv, h1, h2, h3, h4⟩ := zC_ok (F := F) (S := S) hz
      obtain ⟨cs', h5, h6⟩ := fill_ok h h4 hp hv
      refine ⟨.agg cs', ?_, .agg h6⟩
      unfold Instr.build
      have hpl' := run_places (P := P) (w := w) hpl
      simp only [Sem.run_bind, h3, Result.andThen_ok, Sem.run_pure, run_und hu]
      have e : fs = fs.toList.toArray := by simp
      rw [e, List.mapM_toArray, Sem.run_map, hpl']
      simp only [Result.andThen_ok]
      have : (fun x : Nat => (List.toArray pl)[x]?) = (fun x : Nat => pl[x]?) := by funext x; simp
      rw [this, h5]
      rfl
    · cases h
  · rename_i z n e hz hu
    split at h
    · rename_i inf hinf
      rw [Option.map_eq_some_iff] at h
      obtain ⟨out, h, rfl⟩ := h
      obtain ⟨inf', zv, h1, h2, h3, h4⟩ := zC_ok (F := F) (S := S) hz
      obtain ⟨cs', h5, h6⟩ := fill_ok h h4 hp hv
      refine ⟨.agg cs', ?_, .agg h6⟩
      unfold Instr.build
      simp only [Sem.run_bind, h3, Result.andThen_ok, Sem.run_pure, run_und hu, run_sizeOf hinf]
      rw [h5]
      rfl
    · cases h
  · cases h


def lenV (P : Program) (H : AHeap) (T : TypeId) (x : AV) : Option AV :=
  match P.underlying T, x with
  | some .string, .s l => some (.v (.int .i64 l.length))
  | some (.slice _), .sl _ es => some (.v (.int .i64 es.length))
  | some (.slice _), .row _ _ n => some (.v (.int .i64 n))
  | some (.slice _), .vw _ _ _ n => some (.v (.int .i64 n))
  | some (.array n _), _ => some (.v (.int .i64 n))
  | some (.map _ _), .v (.map none) => some (.v (.int .i64 0))
  | some (.map _ _), .v (.map (some b)) => match H.get b with
    | some (.smap es) => some (.v (.int .i64 es.length))
    | some (.imap _ es) => some (.v (.int .i64 es.length))
    | _ => none
  | _, _ => none

theorem OM.run {φ : Nat → Nat} {b : Nat} {ks vs : List AV} (h : OM w φ b ks vs) : ∃ ents clock, (getObj b).run P w = .ok (.map ents clock) w ∧ ents.size = vs.length := by
  obtain ⟨_, ents, clock, hb, h1, h2, _⟩ := h
  exact ⟨ents, clock, by simp [getObj, Sem.run, hb], by have := h2.len; simpa using this⟩

theorem lenV_ok {X : Ctx} {φ : Nat → Nat} {H : AHeap} {T : TypeId} {x : Value} {a av : AV} (h : lenV P H T a = some av) (hr : Rel X w φ H) (hx : VR (Fz w φ) (Sh w) x a) (ts : Array TypeId) (ht : ts[0]? = some T) (ty : TypeId) (xs : Array Value) (hxs : xs[0]? = some x) :
    ∃ v, (Builtin.len_ ts ty xs).run P w = .ok v w ∧ VR (Fz w φ) (Sh w) v av := by
  unfold lenV at h
  unfold Builtin.len_
  simp only [ht, hxs, Sem.run_bind]
  split at h
  · rename_i l hu
    cases h; cases hx
    rename_i s
    refine ⟨goInt s.size, by simp only [run_und hu, Result.andThen_ok, Sem.run_pure], ?_⟩
    have : s.data.toList.length = s.size := by rw [Array.length_toList]; rfl
    rw [this]; exact .v _
  · rename_i e t es hu
    cases h
    cases hx
    · exact ⟨_, by simp only [run_und hu, Result.andThen_ok, Sem.run_pure]; rfl, .v _⟩
    · exact ⟨_, by simp only [run_und hu, Result.andThen_ok, Sem.run_pure]; rfl, .v _⟩
  · rename_i e b sz n hu
    cases h; cases hx
    exact ⟨_, by simp only [run_und hu, Result.andThen_ok, Sem.run_pure]; rfl, .v _⟩
  · rename_i e b sz off n hu
    cases h; cases hx
    exact ⟨_, by simp only [run_und hu, Result.andThen_ok, Sem.run_pure]; rfl, .v _⟩
  · rename_i n e hu
    cases h
    exact ⟨_, by simp only [run_und hu, Result.andThen_ok, Sem.run_pure]; rfl, .v _⟩
  · rename_i hu
    cases h; cases hx
    exact ⟨_, by simp only [run_und hu, Result.andThen_ok, Sem.run_pure]; rfl, .v _⟩
  · rename_i hu
    split at h
    · rename_i es hb
      cases h; cases hx
      obtain ⟨ents, clock, h1, h2⟩ := OM.run (P := P) (hr.obj _ _ hb)
      rw [List.length_map] at h2
      exact ⟨_, by simp only [run_und hu, Result.andThen_ok, Sem.run_bind, h1, Sem.run_pure]; rfl, by rw [h2]; exact .v _⟩
    · rename_i k es hb
      cases h; cases hx
      obtain ⟨ents, clock, h1, h2⟩ := OM.run (P := P) (hr.obj _ _ hb)
      rw [List.length_map] at h2
      exact ⟨_, by simp only [run_und hu, Result.andThen_ok, Sem.run_bind, h1, Sem.run_pure]; rfl, by rw [h2]; exact .v _⟩
    · cases h
  · cases h

def mn2 : AV → AV → Option AV
  | .v (.int k x), .v (.int _ y) => some (.v (.int k (if y < x then y else x)))
  | _, _ => none
def mx2 : AV → AV → Option AV
  | .v (.int k x), .v (.int _ y) => some (.v (.int k (if x < y then y else x)))
  | _, _ => none

def convV (P : Program) (s d : TypeId) (x : AV) : Option AV :=
  match P.underlying s, P.underlying d, x with
  | some _, some (.int k), .v (.int _ n) => some (.v (.int k (k.wrap n)))
  | some _, some .string, .s l => some (.s l)
  | _, _, _ => none

theorem convV_ok {s d : TypeId} {x : Value} {a av : AV} (h : convV P s d a = some av) (hx : VR F S x a) : ∃ v, (convert s d x).run P w = .ok v w ∧ VR F S v av := by
  unfold convV at h
  split at h
  · rename_i u k k' n hs hd
    cases h; cases hx
    refine ⟨.int k (k.wrap n), ?_, .v _⟩
    unfold convert
    simp only [Sem.run_bind, run_und hs, run_und hd, Result.andThen_ok]
    rfl
  · rename_i u l hs hd
    cases h; cases hx
    rename_i b
    refine ⟨.string b, ?_, .s b⟩
    unfold convert
    simp only [Sem.run_bind, run_und hs, run_und hd, Result.andThen_ok]
    cases u <;> rfl
  · cases h

def builtinV (P : Program) (H : AHeap) (b : Builtin) (ts : Array TypeId) (xs : List AV) : Option AV :=
  match b, ts[0]?, xs with
  | .len, some T, x :: _ => lenV P H T x
  | .min, _, [x, y] => mn2 x y
  | .max, _, [x, y] => mx2 x y
  | _, _, _ => none

theorem builtinV_ok {X : Ctx} {φ : Nat → Nat} {H : AHeap} {b : Builtin} {ts : Array TypeId} {xs : List Value} {as : List AV} {av : AV} (h : builtinV P H b ts as = some av) (hr : Rel X w φ H) (hx : VRs (Fz w φ) (Sh w) xs as) (ty : TypeId) (cs : Array Bool) :
    ∃ v, (builtin b ts ty cs ⟨xs⟩).run P w = .ok (.value v) w ∧ VR (Fz w φ) (Sh w) v av := by
  unfold builtinV at h
  split at h
  · rename_i T a as' ht
    cases hx with
    | cons hx hxs =>
      rename_i y ys
      obtain ⟨v, h1, h2⟩ := lenV_ok (P := P) h hr hx ts ht ty (⟨y :: ys⟩ : Array Value) rfl
      exact ⟨v, by unfold builtin; simp only [Sem.run_bind, h1, Result.andThen_ok, Sem.run_pure], h2⟩
  · unfold mn2 at h
    split at h
    · cases h
      cases hx with
      | cons hx hxs => cases hxs with
        | cons hy hys =>
          cases hys; cases hx; cases hy
          exact ⟨_, by unfold builtin Builtin.min_; simp [Builtin.min2, Sem.run_bind], .v _⟩
    · cases h
  · unfold mx2 at h
    split at h
    · cases h
      cases hx with
      | cons hx hxs => cases hxs with
        | cons hy hys =>
          cases hys; cases hx; cases hy
          exact ⟨_, by unfold builtin Builtin.max_; simp [Builtin.max2, Sem.run_bind], .v _⟩
    · cases h
  · cases h

end
end Go.AL

/-
  AL, part h: 'pv': what a quiet operation gives.
-/
set_option linter.unusedSimpArgs false
set_option linter.unusedVariables false
namespace Go.AL
open Go

def pv (P : Program) (H : AHeap) (ρ : Operand → AV) : Op → Option AV
  | .move x => some (ρ x)
  | .assign x => some (ρ x)
  | .pick c a b => match ρ c with
    | .v (.bool t) => some (if t then ρ a else ρ b)
    | _ => none
  | .load T a => ((ρ a).cellsAt H).bind (ldAt P T)
  | .nilCheck x => if ptrNil (ρ x) = some false then some (ρ x) else none
  | .binOp op T x y _ => binV P op T (ρ x) (ρ y)
  | .unOp op _ x => unV op (ρ x)
  | .convert s d x => convV P s d (ρ x)
  | .makeFunc f a c => some (.fn f (a.toList.map ρ) (c.toList.map ρ))
  | .slice T x l h m => sliceV P T (ρ x) (l.map ρ) (h.map ρ) (m.map ρ)
  | .fieldAddr T x i => fieldAddrV P T i (ρ x)
  | .field T x i => fieldValV P T i (ρ x)
  | .indexAddr T x i => indexAddrV P T (ρ x) (ρ i)
  | .index T x i => indexV P T (ρ x) (ρ i)
  | .lookup T x i ok => lookupV P H T (ρ x) (ρ i) ok
  | .extract t i => match ρ t with
    | .tup vs => vs[i]?
    | _ => none
  | .build T parts => buildV P T (parts.toList.map fun p => (p.1, ρ p.2))
  | .call c => match c.callee with
    | .builtin b => builtinV P H b c.argTypes (c.args.toList.map ρ)
    | _ => none
  | _ => none

theorem OVR.map {F : Addr → Value → Prop} {S : Nat → Nat → Prop} {ρ : Operand → Value} {ρa : Operand → AV} (h : ∀ x, VR F S (ρ x) (ρa x)) (o : Option Operand) : OVR F S (o.map ρ) (o.map ρa) := by
  cases o with
  | none => trivial
  | some x => exact h x

theorem sliceAt_eq {P : Program} {T : TypeId} {x : Value} {a b c : Option Value} {w : World} (h : ∃ d, P.underlying T = some d ∧ (d = .string ∨ ∃ e, d = .slice e)) : (Instr.sliceAt T x a b c).run P w = (Instr.slice T x a b c).run P w := by
  obtain ⟨d, hd, hk⟩ := h
  unfold Instr.sliceAt
  rw [Sem.run_bind, run_und hd]
  simp only [Result.andThen_ok]
  rcases hk with rfl | ⟨e, rfl⟩ <;> rfl

theorem sliceV_und {P : Program} {T : TypeId} {a : AV} {l h m : Option AV} {av : AV} (hs : sliceV P T a l h m = some av) : ∃ d, P.underlying T = some d ∧ (d = .string ∨ ∃ e, d = .slice e) := by
  unfold sliceV at hs
  split at hs
  · exact ⟨_, by assumption, .inl rfl⟩
  · exact ⟨_, by assumption, .inr ⟨_, rfl⟩⟩
  · exact ⟨_, by assumption, .inr ⟨_, rfl⟩⟩
  · exact ⟨_, by assumption, .inr ⟨_, rfl⟩⟩
  · cases hs

theorem pv_ok {X : Ctx} {w : World} {φ : Nat → Nat} {H : AHeap} {ρ : Operand → Value} {ρa : Operand → AV} {o : Oper} {av : AV} (h : pv X.P H ρa o.op = some av) (hρ : ∀ x, VR (Fz w φ) (Sh w) (ρ x) (ρa x)) (hr : Rel X w φ H) :
    ∃ v, (execOp ρ o).run X.P w = .ok (.value v) w ∧ VR (Fz w φ) (Sh w) v av := by
  obtain ⟨dst, op, ty, pos, aft, gd⟩ := o
  have fin : ∀ {s : Sem Value} {v : Value}, s.run X.P w = .ok v w → (do pure (Next.value (← s)) : Sem Next).run X.P w = .ok (.value v) w := fun hs => by rw [Sem.run_bind, hs]; rfl
  cases op <;> simp only [pv] at h <;> unfold execOp <;> try (cases h; done)
  case move x => cases h; exact ⟨_, rfl, hρ _⟩
  case assign x => cases h; exact ⟨_, rfl, hρ _⟩
  case pick c a b =>
    split at h
    · rename_i t hc
      cases h
      have h1 := hρ c
      rw [hc] at h1
      generalize hx : ρ c = x at h1 ⊢
      cases h1
      refine ⟨if t then ρ a else ρ b, ?_, ?_⟩
      · simp only [hx, asBool, Sem.run_bind, Sem.run_pure, Result.andThen_ok]
      · cases t
        · exact hρ b
        · exact hρ a
    · cases h
  case build T parts =>
    obtain ⟨parts⟩ := parts
    obtain ⟨v, h1, h2⟩ := buildV_ok (P := X.P) (w := w) (parts := parts.map fun p => (p.1, ρ p.2)) h (by simp) (by simpa [Function.comp_def] using VRs.map (F := Fz w φ) (S := Sh w) hρ (parts.map (·.2)))
    exact ⟨v, fin (by simpa using h1), h2⟩
  case load T a =>
    rw [Option.bind_eq_some_iff] at h
    obtain ⟨cs, h1, h2⟩ := h
    obtain ⟨ad, e, hc⟩ := cellsAt_ok h1 hr (hρ a)
    obtain ⟨v, h3, h4⟩ := load_ok (P := X.P) h2 hc
    refine ⟨v, fin ?_, h4⟩
    unfold Instr.loadAt
    simp only [e, Instr.sureAddr, Sem.run_bind, Sem.run_pure, Result.andThen_ok]
    exact h3
  case nilCheck x =>
    split at h
    · rename_i hn
      cases h
      obtain ⟨p, e, hp⟩ := ptrNil_ok hn (hρ x)
      cases p with
      | none => cases hp
      | some ad =>
        refine ⟨.pointer (some ad), ?_, ?_⟩
        · simp only [e]; rfl
        · have := hρ x; rwa [e] at this
    · cases h
  case binOp op T x y yt =>
    obtain ⟨v, h1, h2⟩ := binV_ok (P := X.P) (w := w) (p := x) (q := y) h (hρ x) (hρ y)
    exact ⟨v, fin h1, h2⟩
  case unOp op T x =>
    obtain ⟨v, h1, h2⟩ := unV_ok (P := X.P) (w := w) h (hρ x)
    exact ⟨v, fin h1, h2⟩
  case convert s d x =>
    obtain ⟨v, h1, h2⟩ := convV_ok (P := X.P) (w := w) h (hρ x)
    exact ⟨v, fin h1, h2⟩
  case makeFunc f a c =>
    cases h
    obtain ⟨a⟩ := a
    obtain ⟨c⟩ := c
    exact ⟨.func f ⟨a.map ρ⟩ ⟨c.map ρ⟩, fin (by simp [Instr.makeFunc]), .fn (VRs.map hρ a) (VRs.map hρ c)⟩
  case slice T x l hh m =>
    obtain ⟨v, h1, h2⟩ := sliceV_ok (P := X.P) (w := w) h (hρ x) (OVR.map hρ l) (OVR.map hρ hh) (OVR.map hρ m)
    exact ⟨v, fin (by rw [sliceAt_eq (sliceV_und h)]; exact h1), h2⟩
  case fieldAddr T x i =>
    obtain ⟨v, h1, h2⟩ := fieldAddrV_ok (P := X.P) (w := w) h (hρ x)
    exact ⟨v, fin h1, h2⟩
  case field T x i =>
    obtain ⟨v, h1, h2⟩ := fieldValV_ok (P := X.P) (w := w) h (hρ x)
    exact ⟨v, fin h1, h2⟩
  case indexAddr T x i =>
    obtain ⟨v, h1, h2⟩ := indexAddrV_ok (P := X.P) (w := w) h (hρ x) (hρ i)
    exact ⟨v, fin h1, h2⟩
  case index T x i =>
    obtain ⟨v, h1, h2⟩ := indexV_ok (P := X.P) (w := w) h (hρ x) (hρ i)
    exact ⟨v, fin h1, h2⟩
  case lookup T x i ok =>
    obtain ⟨v, h1, h2⟩ := lookupV_ok (P := X.P) h hr (hρ x) (hρ i)
    exact ⟨v, fin h1, h2⟩
  case extract t i =>
    split at h
    · rename_i vs ht
      have h1 := hρ t
      rw [ht] at h1
      generalize hx : ρ t = x at h1 ⊢
      cases h1
      rename_i us hus
      obtain ⟨v, h2, h3⟩ := hus.get _ _ h
      refine ⟨v, fin ?_, h3⟩
      simp only [hx, Instr.extract]
      rw [show (⟨us⟩ : Array Value)[i]? = some v from by simpa using h2]
      rfl
    · cases h
  case call c =>
    obtain ⟨callee, args, ats⟩ := c
    simp only at h
    split at h
    · rename_i b
      obtain ⟨args⟩ := args
      obtain ⟨v, h1, h2⟩ := builtinV_ok (P := X.P) h hr (VRs.map hρ args) ty (((⟨args⟩ : Array Operand)).map fun | .const _ => true | _ => false)
      refine ⟨v, ?_, h2⟩
      simp only [resolve, Sem.run_bind, Sem.run_pure, Result.andThen_ok, invoke]
      rw [← h1]
      congr 2
      simp
    · cases h

end Go.AL

/-
  AL, part i: new blocks, stores.
-/
set_option linter.unusedSimpArgs false
set_option linter.unusedVariables false
namespace Go.AL
open Go

section
variable {X : Ctx} {H : AHeap} {w : World} {φ φ' : Nat → Nat} {P : Program}

theorem heap_old (o : Obj) {b : Nat} (h : b ≠ w.heap.size) : (w.alloc o).heap[b]? = w.heap[b]? := by
  show (w.heap.push o)[b]? = _
  rw [Array.getElem?_push, if_neg h]
theorem heap_new (w : World) (o : Obj) : (w.alloc o).heap[w.heap.size]? = some o := by
  show (w.heap.push o)[w.heap.size]? = _
  rw [Array.getElem?_push, if_pos rfl]

theorem alloc_step (o : Obj) (hφ : ∀ c, c ≠ w.heap.size → φ' c = φ c) (hl : ∀ b, w.heap.size ≤ b → φ b = 0) : Step H w φ (w.alloc o) φ' where
  os := rfl
  tape := rfl
  output := rfl
  size := by simp
  fz := fun ad u h => by
    have hlt := World.block_lt_of_cell? w ad h.1
    exact ⟨by rw [World.cell?_of_block (w := w) (heap_old o (by omega))]; exact h.1, by rw [hφ _ (by omega)]; exact h.2⟩
  sh := fun b n h => by
    obtain ⟨arr, T, fr, h1, h2⟩ := h
    have hlt : b < w.heap.size := (Array.getElem?_eq_some_iff.1 h1).1
    exact ⟨arr, T, fr, by rw [heap_old o (by omega)]; exact h1, h2⟩
  un := fun b hb _ => ⟨heap_old o (by omega), hφ b (by omega)⟩

theorem alloc_rel (o : Obj) (hφ : ∀ c, c ≠ w.heap.size → φ' c = φ c) (hr : Rel X w φ H) : Rel X (w.alloc o) φ' H := by
  have hs := alloc_step (H := H) o hφ hr.lim
  refine ⟨fun b a hb => ?_, fun b hb => ?_, X.mono _ _ hs.fz hr.env⟩
  · have hlt := hr.lt hb
    exact (hr.obj b a hb).keep (heap_old o (by omega)) (hφ b (by omega)) hs.fz hs.sh
  · simp at hb
    rw [hφ b (by omega)]
    exact hr.lim b (by omega)

theorem alloc_out (o : Obj) (hφ : ∀ c, c ≠ w.heap.size → φ' c = φ c) (hr : Rel X w φ H) : Out X H w φ H (w.alloc o) φ' := ⟨alloc_step o hφ hr.lim, alloc_rel o hφ hr, fun _ h => .inl h, fun _ => Nat.le_refl _⟩

theorem alloc_own (o : Obj) (a : AObj) (hφ : ∀ c, c ≠ w.heap.size → φ' c = φ c) (hr : Rel X w φ H) (ho : OR (w.alloc o) φ' w.heap.size a) : Out X H w φ (H.put w.heap.size a) (w.alloc o) φ' := by
  refine ⟨alloc_step o hφ hr.lim, ⟨fun b c hb => ?_, (alloc_rel o hφ hr).lim, (alloc_rel o hφ hr).env⟩, fun b hb => ?_, fun _ => Nat.le_refl _⟩
  · rw [AHeap.get_put] at hb
    split at hb
    · rename_i e; subst e; cases hb; exact ho
    · exact (alloc_rel o hφ hr).obj b c hb
  · rw [AHeap.get_put] at hb
    split at hb
    · rename_i e; subst e; exact .inr (Nat.le_refl _)
    · exact .inl hb

def blk (w : World) (b : Nat) (o : Obj) : World := { w with heap := w.heap.setIfInBounds b o }
theorem blk_same (o : Obj) {b : Nat} (h : b < w.heap.size) : (blk w b o).heap[b]? = some o := by simp [blk, h]
theorem blk_other (o : Obj) {b c : Nat} (h : c ≠ b) : (blk w b o).heap[c]? = w.heap[c]? := by
  show (w.heap.setIfInBounds b o)[c]? = _
  rw [Array.getElem?_setIfInBounds, if_neg (Ne.symm h)]
theorem blk_size (o : Obj) (b : Nat) : (blk w b o).heap.size = w.heap.size := by simp [blk]

theorem setCell_blk {b off : Nat} {arr : Array Value} {T : TypeId} {fr : Nat × Nat} (h : w.heap[b]? = some (.cells arr T fr)) (v : Value) : w.setCell ⟨b, off, none⟩ v = blk w b (.cells (arr.setIfInBounds off v) T fr) := by
  have hlt : b < w.heap.size := (Array.getElem?_eq_some_iff.1 h).1
  have hb : w.heap[b] = .cells arr T fr := (Array.getElem?_eq_some_iff.1 h).2
  unfold World.setCell blk
  congr 1
  apply Array.ext_getElem?
  intro i
  rw [Array.getElem?_modify, Array.getElem?_setIfInBounds]
  by_cases e : b = i
  · subst e; simp [h, hlt, hb]
  · simp [e]

theorem blk_blk (w : World) (b : Nat) (o o' : Obj) : blk (blk w b o) b o' = blk w b o' := by simp [blk]
theorem blk_id {b : Nat} {o : Obj} (h : w.heap[b]? = some o) : blk w b o = w := by
  have hlt : b < w.heap.size := (Array.getElem?_eq_some_iff.1 h).1
  have hb : w.heap[b] = o := (Array.getElem?_eq_some_iff.1 h).2
  unfold blk
  have : w.heap.setIfInBounds b o = w.heap := by
    apply Array.ext_getElem?
    intro i
    rw [Array.getElem?_setIfInBounds]
    by_cases e : b = i
    · subst e; simp [h, hlt, hb]
    · simp [e]
  rw [this]

def AV.one : AV → Bool
  | .v x => x.oneCell'
  | .agg _ | .tup _ | .top => false
  | .whn .. => false
  | _ => true

theorem one_ok {F : Addr → Value → Prop} {S : Nat → Nat → Prop} {x : Value} {a : AV} (h : a.one = true) (hx : VR F S x a) : x.oneCell' = true := by
  cases hx <;> first | rfl | (simp [AV.one] at h; done) | exact h

theorem run_storeCells {b : Nat} {T : TypeId} : ∀ (vs : List Value) (off i : Nat) (w : World) (arr : Array Value), w.heap[b]? = some (.cells arr T (0, 0)) → off + i + vs.length ≤ arr.size → (∀ u ∈ vs, u.oneCell' = true) →
    ∃ arr', (storeCells ⟨b, off, none⟩ vs i).run P w = .ok () (blk w b (.cells arr' T (0, 0))) ∧ arr'.toList = arr.toList.take (off + i) ++ vs ++ arr.toList.drop (off + i + vs.length) ∧ arr'.size = arr.size
  | [], off, i, w, arr, h, _, _ => ⟨arr, by rw [blk_id h]; rfl, by simp, rfl⟩
  | v :: vs, off, i, w, arr, h, hl, h1 => by
    have hlen : (v :: vs).length = vs.length + 1 := rfl
    rw [hlen] at hl
    have hlt : off + i < arr.size := by omega
    have hblt : b < w.heap.size := (Array.getElem?_eq_some_iff.1 h).1
    have hc : w.cell? ⟨b, off + i, none⟩ = some arr[off + i] := by simp [World.cell?, h, hlt]
    have hfr : w.frozen? ⟨b, off + i, none⟩ = false := by simp [World.frozen?, h]
    have hs : (store ((⟨b, off, none⟩ : Addr).add i) v).run P w = .ok () (blk w b (.cells (arr.setIfInBounds (off + i) v) T (0, 0))) := by
      rw [add_none, run_store P w _ v _ (h1 v (by simp)), hc]
      simp only [hfr, Bool.false_eq_true, if_false, setCell_blk h]
    obtain ⟨arr', h2, h3, h4⟩ := run_storeCells vs off (i + 1) (blk w b (.cells (arr.setIfInBounds (off + i) v) T (0, 0))) (arr.setIfInBounds (off + i) v) (blk_same _ hblt) (by simp; omega) (fun u hu => h1 u (by simp [hu]))
    refine ⟨arr', ?_, ?_, by rw [h4]; simp⟩
    · simp only [storeCells, Sem.run_bind, hs, Result.andThen_ok]
      rw [h2, blk_blk]
    · rw [h3]
      have hll : off + i < arr.toList.length := by simpa using hlt
      have e1 : (List.take (off + (i + 1)) (arr.toList.set (off + i) v)) = arr.toList.take (off + i) ++ [v] := by
        rw [show off + (i + 1) = off + i + 1 from by omega, List.take_succ_eq_append_getElem (by simpa using hlt)]
        rw [List.take_set_of_le (by omega)]
        simp
      have e2 : List.drop (off + (i + 1) + vs.length) (arr.toList.set (off + i) v) = arr.toList.drop (off + i + (vs.length + 1)) := by
        rw [List.drop_set_of_lt (by omega)]
        congr 1; omega
      rw [Array.toList_setIfInBounds, e1, e2, hlen]
      simp

theorem blk_step {b : Nat} {arr arr' : Array Value} {T : TypeId} (h : w.heap[b]? = some (.cells arr T (0, 0))) (hs : arr'.size = arr.size) (hk : ∀ i, i < φ b → arr'[i]? = arr[i]?) (hn : H.get b ≠ none) :
    Step H w φ (blk w b (.cells arr' T (0, 0))) φ where
  os := rfl
  tape := rfl
  output := rfl
  size := by rw [blk_size]; exact Nat.le_refl _
  fz := fun ad u hu => by
    refine ⟨?_, hu.2⟩
    obtain ⟨h1, h2⟩ := hu
    have hblt : b < w.heap.size := (Array.getElem?_eq_some_iff.1 h).1
    by_cases e : ad.block = b
    · unfold World.cell? at h1 ⊢
      rw [e, h] at h1
      rw [e, blk_same _ hblt]
      simp only at h1 ⊢
      split at h1
      · cases h1
      · rename_i hsp
        rw [if_neg hsp, hk _ (by rw [← e]; exact h2)]
        exact h1
    · rw [World.cell?_of_block (w := w) (blk_other _ e)]
      exact h1
  sh := fun c n hc => by
    obtain ⟨ar, T', fr, h1, h2⟩ := hc
    have hblt : b < w.heap.size := (Array.getElem?_eq_some_iff.1 h).1
    by_cases e : c = b
    · subst e
      rw [h] at h1; cases h1
      exact ⟨arr', T, (0, 0), blk_same _ hblt, by omega⟩
    · exact ⟨ar, T', fr, by rw [blk_other _ e]; exact h1, h2⟩
  un := fun c hc hcn => by
    have e : c ≠ b := fun e => hn (e ▸ hcn)
    exact ⟨blk_other _ e, rfl⟩

theorem blk_out {b : Nat} {arr arr' : Array Value} {T : TypeId} {a a' : AObj} (hr : Rel X w φ H) (ha : H.get b = some a) (h : w.heap[b]? = some (.cells arr T (0, 0))) (hs : arr'.size = arr.size) (hk : ∀ i, i < φ b → arr'[i]? = arr[i]?)
    (ho : OR (blk w b (.cells arr' T (0, 0))) φ b a') : Out X H w φ (H.put b a') (blk w b (.cells arr' T (0, 0))) φ := by
  have hst := blk_step (H := H) (φ := φ) h hs hk (by rw [ha]; simp)
  refine ⟨hst, ⟨fun c o hc => ?_, fun c hc => ?_, X.mono _ _ hst.fz hr.env⟩, fun c hc => ?_, fun _ => Nat.le_refl _⟩
  · rw [AHeap.get_put] at hc
    split at hc
    · rename_i e; subst e; cases hc; exact ho
    · rename_i e; exact (hr.obj c o hc).keep (blk_other _ e) rfl hst.fz hst.sh
  · rw [blk_size] at hc; exact hr.lim c hc
  · rw [AHeap.get_put] at hc
    split at hc
    · rename_i e; subst e; left; rw [ha]; simp
    · exact .inl hc

end
end Go.AL

/-
  AL, part j: operations that make or write memory.
-/
set_option linter.unusedSimpArgs false
set_option linter.unusedVariables false
namespace Go.AL
open Go

def slT (P : Program) (T : TypeId) : Option (TypeId × TypeInfo) := match P.underlying T with
  | some (.slice e) => (P.info? e).map fun i => (e, i)
  | _ => none
theorem slT_ok {P : Program} {T e : TypeId} {i : TypeInfo} (h : slT P T = some (e, i)) : P.underlying T = some (.slice e) ∧ P.info? e = some i := by
  unfold slT at h
  split at h
  · rename_i e' hu
    rw [Option.map_eq_some_iff] at h
    obtain ⟨i', h1, h2⟩ := h
    cases h2
    exact ⟨hu, h1⟩
  · cases h

section
variable {X : Ctx} {H : AHeap} {w : World} {φ φ' : Nat → Nat} {P : Program}

theorem frozen_new (hr : Rel X w φ H) {arr : Array Value} {T : TypeId} {cs : List AV} (hc : VRs (Fz w φ) (Sh w) arr.toList cs) :
    ∃ φ', Out X H w φ H (w.alloc (.cells arr T)) φ' ∧ CRs (Fz (w.alloc (.cells arr T)) φ') (Sh (w.alloc (.cells arr T))) ⟨w.heap.size, 0, none⟩ 0 cs := by
  refine ⟨fun c => if c = w.heap.size then arr.size else φ c, ?_⟩
  have hφ : ∀ c, c ≠ w.heap.size → (fun c => if c = w.heap.size then arr.size else φ c) c = φ c := fun c hc => if_neg hc
  have ho := alloc_out (φ' := fun c => if c = w.heap.size then arr.size else φ c) (.cells arr T) hφ hr
  refine ⟨ho, CRs.of_get _ _ (fun i a hi => ?_)⟩
  obtain ⟨u, h1, h2⟩ := hc.get i a hi
  refine ⟨u, ⟨?_, ?_⟩, ho.step.vr h2⟩
  · rw [add_none, cell_row (heap_new w _)]; simpa using h1
  · rw [add_none]
    simp only [if_true]
    have := (List.getElem?_eq_some_iff.1 h1).1
    simp at this; omega

theorem shape_new (w : World) (arr : Array Value) (T : TypeId) : Sh (w.alloc (.cells arr T)) w.heap.size arr.size := ⟨arr, T, (0, 0), heap_new w _, rfl⟩

theorem updφ (w : World) (φ : Nat → Nat) : ∀ c, c ≠ w.heap.size → φ c = φ c := fun _ _ => rfl

theorem box_new (hr : Rel X w φ H) {arr : Array Value} {T : TypeId} {cs : List AV} (hc : VRs (Fz w φ) (Sh w) arr.toList cs) :
    Out X H w φ (H.put w.heap.size (.box T cs)) (w.alloc (.cells arr T)) φ := by
  refine alloc_own _ _ (updφ w φ) hr ⟨hr.lim _ (Nat.le_refl _), arr, heap_new w _, ?_⟩
  exact (alloc_out (X := X) (H := H) (φ' := φ) (.cells arr T) (updφ w φ) hr).step.vrs hc

theorem row_new (hr : Rel X w φ H) {arr : Array Value} {T : TypeId} {es : List (List AV)} {vs rest : List Value} {sz : Nat} (he : ∀ e ∈ es, e.length = sz) (ha : arr.toList = vs ++ rest) (hc : VRs (Fz w φ) (Sh w) vs es.flatten) (hbd : arr.size ≤ 9223372036854775807 * sz) :
    Out X H w φ (H.put w.heap.size (.row T sz false es)) (w.alloc (.cells arr T)) φ := by
  refine alloc_own _ _ (updφ w φ) hr ⟨by simp [hr.lim _ (Nat.le_refl _)], he, arr, vs, rest, heap_new w _, ha, ?_, hbd⟩
  exact (alloc_out (X := X) (H := H) (φ' := φ) (.cells arr T) (updφ w φ) hr).step.vrs hc

def putAt (off : Nat) (vs cs : List AV) : List AV := cs.take off ++ vs ++ cs.drop (off + vs.length)

theorem VRs.putAt {F : Addr → Value → Prop} {S : Nat → Nat → Prop} {xs ys : List Value} {as bs : List AV} (h : VRs F S xs as) (k : VRs F S ys bs) (off : Nat) : VRs F S (xs.take off ++ ys ++ xs.drop (off + ys.length)) (putAt off bs as) := by
  unfold AL.putAt
  rw [← k.len]
  exact ((h.take _).append k).append (h.drop _)

theorem store_box (hr : Rel X w φ H) {b off : Nat} {T T0 : TypeId} {cs vs : List AV} {i : TypeInfo} {x : Value} (hb : H.get b = some (.box T0 cs)) (hi : P.info? T = some i) (hl : vs.length = i.size) (hoff : off + vs.length ≤ cs.length)
    (ho : vs.all AV.one = true) (hv : VRs (Fz w φ) (Sh w) x.cells.toList vs) :
    ∃ w', (Instr.storeAt T (.pointer (some ⟨b, off, none⟩)) x).run P w = .ok () w' ∧ Out X H w φ (H.put b (.box T0 (putAt off vs cs))) w' φ := by
  obtain ⟨h0, arr, h1, h2⟩ := hr.obj b _ hb
  have hlen := hv.len
  have hal := h2.len
  rw [Array.length_toList] at hal
  obtain ⟨arr', g1, g2, g3⟩ := run_storeCells (P := P) x.cells.toList off 0 w arr h1 (by omega) (fun u hu => by
    obtain ⟨k, hk⟩ := List.getElem?_of_mem hu
    have hk' : k < vs.length := by rw [← hlen]; exact (List.getElem?_eq_some_iff.1 hk).1
    exact one_ok (List.all_eq_true.1 ho _ (List.getElem_mem hk')) (hv.get' k u _ hk (List.getElem?_eq_getElem hk')))
  refine ⟨_, ?_, blk_out hr hb h1 g3 (fun k hk => by rw [h0] at hk; omega) ⟨h0, arr', blk_same _ (Array.getElem?_eq_some_iff.1 h1).1, ?_⟩⟩
  · unfold Instr.storeAt storeVar
    simp only [Instr.sureAddr, Sem.run_bind, Sem.run_pure, Result.andThen_ok, run_sizeOf hi]
    rw [if_neg (by rw [ne_eq, Decidable.not_not, ← hl, ← hlen, Array.length_toList])]
    exact g1
  · have hst := blk_step (H := H) (φ := φ) h1 g3 (fun k hk => by rw [h0] at hk; omega) (by rw [hb]; simp)
    rw [g2, Nat.add_zero]
    exact hst.vrs (h2.putAt hv off)

end
end Go.AL

/-
  AL, part k: append.
-/
set_option linter.unusedSimpArgs false
set_option linter.unusedVariables false
namespace Go.AL
open Go

section
variable {X : Ctx} {H : AHeap} {w : World} {φ φ' : Nat → Nat} {P : Program}

def elT (P : Program) (T : TypeId) : Option (TypeId × Nat × Nat) := match slT P T with
  | some (e, i) => match zC P e with
    | some z => if z.length = i.size ∧ 0 < i.size then some (e, i.size, i.bytes) else none
    | none => none
  | none => none

theorem elT_ok {T e : TypeId} {sz by_ : Nat} (h : elT P T = some (e, sz, by_)) :
    ∃ i z, P.underlying T = some (.slice e) ∧ P.info? e = some i ∧ i.size = sz ∧ i.bytes = by_ ∧ 0 < sz ∧ i.zero = some z ∧ (∀ w, (zeroValue e).run P w = .ok z w) ∧ z.cells.size = sz := by
  unfold elT at h
  split at h
  · rename_i e' i hs
    obtain ⟨h1, h2⟩ := slT_ok hs
    split at h
    · rename_i zc hz
      split at h
      · rename_i hc
        simp only [Option.some.injEq, Prod.mk.injEq] at h
        obtain ⟨rfl, rfl, rfl⟩ := h
        obtain ⟨inf, z, g1, g2, g3, g4⟩ := zC_ok (F := fun _ _ => True) (S := fun _ _ => True) hz
        rw [h2] at g1; cases g1
        refine ⟨i, z, h1, h2, rfl, rfl, hc.2, g2, g3, ?_⟩
        have := g4.len
        rw [Array.length_toList] at this
        omega
      · cases h
    · cases h
  · cases h

def srcV (P : Program) (H : AHeap) (sz : Nat) (xT : TypeId) (a : AV) : Option (List (List AV)) :=
  match P.underlying xT, a with
  | some (.slice _), .sl _ es => if es.all (fun c => c.length == sz && c.all AV.one) then some es else none
  | some (.slice _), .row b sz' n => match H.get b with
    | some (.row _ sz'' _ es) => if sz' = sz ∧ sz'' = sz ∧ n ≤ es.length ∧ es.all (fun c => c.all AV.one) then some (es.take n) else none
    | _ => none
  | some .string, .s l => if sz = 1 then some (l.map fun c => [.v (.int .u8 c.toNat)]) else none
  | _, _ => none

theorem flatten_len {α : Type} {sz : Nat} : ∀ {es : List (List α)}, (∀ e ∈ es, e.length = sz) → es.flatten.length = es.length * sz
  | [], _ => by simp
  | e :: es, h => by
    rw [List.flatten_cons, List.length_append, h e (by simp), flatten_len (fun e he => h e (by simp [he])), List.length_cons, Nat.succ_mul]; omega

theorem ERs.flat {F : Addr → Value → Prop} {S : Nat → Nat → Prop} {ad : Addr} {sz : Nat} : ∀ {es : List (List AV)} {i : Nat}, ERs F S ad sz i es → CRs F S ad (i * sz) es.flatten
  | [], i, _ => .nil
  | e :: es, i, .cons hl hc hs => by
    have h2 := ERs.flat hs
    rw [Nat.succ_mul] at h2
    refine CRs.of_get _ _ (fun k a hk => ?_)
    rw [List.flatten_cons] at hk
    by_cases hlt : k < e.length
    · rw [List.getElem?_append_left hlt] at hk
      exact hc.get k a hk
    · rw [List.getElem?_append_right (by omega)] at hk
      obtain ⟨u, g1, g2⟩ := h2.get _ a hk
      exact ⟨u, by rw [show i * sz + k = i * sz + sz + (k - e.length) from by omega]; exact g1, g2⟩

theorem CRs.list {ad : Addr} {cs : List AV} (h : CRs (Fz w φ) (Sh w) ad 0 cs) : ∃ us, VRs (Fz w φ) (Sh w) us cs ∧ ∀ j u, us[j]? = some u → w.cell? (ad.add j) = some u := by
  obtain ⟨us, h1, h2⟩ := Cw.list (F := Fz w φ) (S := Sh w) (w := w) (ad := ad) (cs := cs) (k := 0) (fun j a hj => by rw [Nat.zero_add]; exact Cw.of_crs h j a hj)
  exact ⟨us, h1, fun j u hj => by have := h2 j u hj; rwa [Nat.zero_add] at this⟩

theorem firsts_ok {x : Value} {sz : Nat} {t : Bool} {es : List (List AV)} (hes : ∀ e ∈ es, e.length = sz) (hx : VR (Fz w φ) (Sh w) x (.sl t es)) :
    ∃ news ad cap, x = .slice ad es.length cap ∧ (t = true → cap = es.length) ∧ es.length ≤ cap ∧ VRs (Fz w φ) (Sh w) news es.flatten ∧ ∀ w', (∀ ad, w'.cell? ad = w.cell? ad) → (Builtin.firstCells sz es.length x).run P w' = .ok ⟨news⟩ w' := by
  cases hx
  · exact ⟨[], none, 0, rfl, fun _ => rfl, Nat.le_refl _, .nil, fun w' _ => by simp [Builtin.firstCells]⟩
  · rename_i ad sz' cap hers hc ht
    have h1 := hers.flat
    rw [Nat.zero_mul] at h1
    obtain ⟨us, h2, h3⟩ := h1.list
    refine ⟨us, some ad, cap, rfl, ht, hc, h2, fun w' hw => ?_⟩
    exact run_firstCells_some (P := P) w' sz es.length ad es.length cap us (by rw [h2.len, flatten_len hes]) (fun j v hj => by rw [hw]; exact h3 j v hj)

theorem src_ok {a : AV} {x : Value} {sz : Nat} {xT : TypeId} {nes : List (List AV)} (h : srcV P H sz xT a = some nes) (hr : Rel X w φ H) (hx : VR (Fz w φ) (Sh w) x a) :
    ∃ news, VRs (Fz w φ) (Sh w) news nes.flatten ∧ (∀ e ∈ nes, e.length = sz) ∧ (∀ u ∈ news, u.oneCell' = true) ∧ (∃ d, P.underlying xT = some d ∧ ∀ k, d ≠ .int k) ∧
      ∀ w', (∀ ad, w'.cell? ad = w.cell? ad) → (Builtin.lenOf x).run P w' = .ok nes.length w' ∧ (Builtin.firstCells sz nes.length x).run P w' = .ok ⟨news⟩ w' := by
  have one : ∀ {news : List Value} {cs : List AV}, VRs (Fz w φ) (Sh w) news cs → (∀ c ∈ cs, c.one = true) → ∀ u ∈ news, u.oneCell' = true := fun hv hc u hu => by
    obtain ⟨k, hk⟩ := List.getElem?_of_mem hu
    have hl := (List.getElem?_eq_some_iff.1 hk).1
    rw [hv.len] at hl
    exact one_ok (hc _ (List.getElem_mem hl)) (hv.get' k u _ hk (List.getElem?_eq_getElem hl))
  unfold srcV at h
  split at h
  · rename_i e t es hu
    split at h
    · rename_i hall
      cases h
      simp only [List.all_eq_true, Bool.and_eq_true, beq_iff_eq] at hall
      obtain ⟨news, ad, cap, h1, h2, h3, h4, h5⟩ := firsts_ok (P := P) (fun e he => (hall e he).1) hx
      refine ⟨news, h4, fun e he => (hall e he).1, one h4 (fun c hc => ?_), ⟨_, hu, by simp⟩, fun w' hw => ⟨by rw [h1]; rfl, h5 w' hw⟩⟩
      obtain ⟨e, he, hce⟩ := List.mem_flatten.1 hc
      exact (hall e he).2 c hce
    · cases h
  · rename_i e b sz' n hu
    split at h
    · rename_i T' sz'' sn es hb
      split at h
      · rename_i hc
        obtain ⟨e1, e2, hn, hall⟩ := hc
        subst e1; subst e2
        cases h
        cases hx
        rename_i cap size hs hsz hncap
        obtain ⟨_, hl, arr, vs, rest, h1, h2, h3, _⟩ := hr.obj b _ hb
        have hfl := flatten_len hl
        have hmin : min n es.length = n := Nat.min_eq_left hn
        have h3' := h3.take (n * sz'')
        have hcut : es.flatten.take (n * sz'') = (es.take n).flatten := by
          have h4 : es = es.take n ++ es.drop n := (List.take_append_drop n es).symm
          rw [h4, List.flatten_append]
          have h5 : (es.take n).flatten.length = n * sz'' := by rw [flatten_len (fun e he => hl e (List.mem_of_mem_take he)), List.length_take, hmin]
          rw [List.take_append_of_le_length (by rw [h5]; exact Nat.le_refl _), List.take_of_length_le (by rw [h5]; exact Nat.le_refl _)]
          rw [← h4]
        rw [hcut] at h3'
        simp only [List.all_eq_true] at hall
        refine ⟨vs.take (n * sz''), h3', fun e he => hl e (List.mem_of_mem_take he), one h3' (fun c hc => ?_), ⟨_, hu, by simp⟩, fun w' hw => ⟨by rw [List.length_take, hmin]; rfl, ?_⟩⟩
        · obtain ⟨e, he, hce⟩ := List.mem_flatten.1 hc
          exact hall e (List.mem_of_mem_take he) c hce
        · rw [List.length_take, hmin]
          refine run_firstCells_some (P := P) w' sz'' n ⟨b, 0, none⟩ n cap _ ?_ (fun j v hj => ?_)
          · rw [h3'.len, flatten_len (fun e he => hl e (List.mem_of_mem_take he)), List.length_take, hmin]
          · rw [hw, add_none, Nat.zero_add, cell_row h1, h2]
            rw [List.getElem?_take] at hj
            split at hj
            · rw [List.getElem?_append_left (List.getElem?_eq_some_iff.1 hj).1]; exact hj
            · cases hj
      · cases h
    · cases h
  · rename_i l hu
    split at h
    · rename_i hsz; subst hsz
      cases h
      cases hx
      rename_i b
      have hv : VRs (Fz w φ) (Sh w) (b.data.toList.map fun c => Value.int .u8 c.toNat) ((b.data.toList.map fun c => [AV.v (.int .u8 c.toNat)]).flatten) := by
        have : (b.data.toList.map fun c => [AV.v (.int .u8 c.toNat)]).flatten = b.data.toList.map fun c => AV.v (.int .u8 c.toNat) := by
          induction b.data.toList with
          | nil => rfl
          | cons c l ih => simp [ih]
        rw [this]
        exact VRs.of_get (by simp) (fun i x a hx ha => by
          rw [List.getElem?_map] at hx ha
          cases hc : b.data.toList[i]? with
          | none => rw [hc] at hx; cases hx
          | some c => rw [hc] at hx ha; cases hx; cases ha; exact .v _)
      have hsz : b.data.toList.length = b.size := by rw [Array.length_toList]; rfl
      refine ⟨_, hv, by simp, fun u hu => ?_, ⟨_, hu, by simp⟩, fun w' hw => ⟨?_, ?_⟩⟩
      · rw [List.mem_map] at hu
        obtain ⟨c, _, rfl⟩ := hu
        rfl
      · rw [List.length_map, hsz]; rfl
      · rw [List.length_map, hsz]
        simp only [Builtin.firstCells]
        rw [show b.extract 0 b.size = b from by cases b; simp [ByteArray.extract, ByteArray.size, ByteArray.copySlice]]
        rw [Sem.run_pure]
        congr 1
        apply Array.ext'
        simp
    · cases h
  · cases h


theorem run_grow {T e xT ty : TypeId} {sz by_ : Nat} (hT : elT P T = some (e, sz, by_)) (hxT : ∃ d, P.underlying xT = some d ∧ ∀ k, d ≠ .int k) {base : Option Addr} {sLen sCap m : Nat} {x : Value} {olds news : List Value}
    (ho : ∀ w', (∀ ad, w'.cell? ad = w.cell? ad) → (Builtin.firstCells sz sLen (.slice base sLen sCap)).run P w' = .ok ⟨olds⟩ w')
    (hs : ∀ w', (∀ ad, w'.cell? ad = w.cell? ad) → (Builtin.lenOf x).run P w' = .ok m w' ∧ (Builtin.firstCells sz m x).run P w' = .ok ⟨news⟩ w')
    (hg : sCap < sLen + m) (hb : (sLen + m) * by_ ≤ 140737488355328) (h63 : sLen + m ≤ 9223372036854775807) :
    ∃ cap rest, (Builtin.append_ #[T, xT] ty #[.slice base sLen sCap, x]).run P w = .ok (.slice (some ⟨w.heap.size, 0, none⟩) (sLen + m) cap) (w.drew.alloc (.cells ⟨olds ++ news ++ rest⟩ e)) ∧
      sLen + m ≤ cap ∧ rest.length = (cap - (sLen + m)) * sz ∧ cap ≤ 9223372036854775807 := by
  obtain ⟨i, z, h1, h2, h3, h4, h5, h6, h7, h8⟩ := elT_ok hT
  obtain ⟨d, hd, hdk⟩ := hxT
  have hn : ¬ (sLen + m ≤ sCap) := by omega
  have h48 := growslice_fits hg hb
  have h48' : ¬ (281474976710656 < Builtin.nextslicecap (sLen + m) sCap * i.bytes) := by rw [h4]; omega
  have h63' : ¬ (9223372036854775807 < ((sLen : Int) + (m : Int))) := by omega
  have hz : (match d with | .int k => true | _ => false) = false := by cases d <;> first | rfl | exact absurd rfl (hdk _)
  obtain ⟨g1, g2⟩ := hs w (fun _ => rfl)
  obtain ⟨g3, g4⟩ := hs w.drew (fun _ => rfl)
  have g5 := ho w.drew (fun _ => rfl)
  have hsz := run_sizeOf h2
  refine ⟨grownCap w (sLen + m) sCap e, (Builtin.zeroCells z.cells (grownCap w (sLen + m) sCap e - (sLen + m))).toList, ?_, ?_, ?_, ?_⟩
  · simp only [Builtin.append_]
    have e0 : (#[T, xT] : Array TypeId)[0]? = some T := rfl
    have e1 : (#[T, xT] : Array TypeId)[1]? = some xT := rfl
    have e2 : (#[.slice base sLen sCap, x] : Array Value)[0]? = some (.slice base sLen sCap) := rfl
    have e3 : (#[.slice base sLen sCap, x] : Array Value)[1]? = some x := rfl
    simp only [e0, e1, e2, e3, Sem.run_bind, run_und h1, Result.andThen_ok, hsz, run_und hd, Sem.run_pure, hz, Bool.false_eq_true, if_false, g1, if_neg hn]
    have hti : ∀ w, (typeInfo e).run P w = .ok i w := fun w => by simp [typeInfo, h2]
    have hmax : IntKind.i64.max = 9223372036854775807 := by decide
    simp only [hti, Result.andThen_ok]
    rw [if_neg (by rw [hmax]; intro hh; have := hh.1; omega)]
    simp only [Sem.run_bind, hti, Result.andThen_ok]
    rw [if_neg (by rw [h4]; omega)]
    simp only [Sem.run_bind, hti, Result.andThen_ok, run_choose, Question.forced, Bool.false_eq_true, if_false, run_askRoom, World.drew_eq, h3, g5, g4, h7, Bool.not_false, if_true, newRow, run_newObj, Sem.run_pure, World.alloc_eq, World.size_drew, grownCap]
    congr 2
    simp
  · exact grownCap_ge w (sLen + m) sCap e
  · rw [Array.length_toList, size_zeroCells, h8]
  · exact grownCap_le_maxLen w (sLen + m) sCap e h63

end
end Go.AL

/-
  AL, part l: append, abstractly.
-/
set_option linter.unusedSimpArgs false
set_option linter.unusedVariables false
namespace Go.AL
open Go

section
variable {X : Ctx} {H : AHeap} {w : World} {φ φ' : Nat → Nat}

def AVal (X : Ctx) (H : AHeap) (w : World) (φ : Nat → Nat) (s : Sem Value) (K : AV → AHeap → Prop) : Prop :=
  ∃ v w' av H' φ', s.run X.P w = .ok v w' ∧ VR (Fz w' φ') (Sh w') v av ∧ K av H' ∧ Out X H w φ H' w' φ'

def AApp (X : Ctx) (T xT : TypeId) (s x : AV) (H : AHeap) (K : AV → AHeap → Prop) : Prop :=
  ∀ ty w φ vs vx, Rel X w φ H → VR (Fz w φ) (Sh w) vs s → VR (Fz w φ) (Sh w) vx x → AVal X H w φ (Builtin.append_ #[T, xT] ty #[vs, vx]) K

theorem drew_out (hr : Rel X w φ H) : Out X H w φ H w.drew φ :=
  ⟨⟨rfl, rfl, rfl, Nat.le_refl _, fun _ _ h => h, fun _ _ h => h, fun _ _ _ => ⟨rfl, rfl⟩⟩, ⟨hr.obj, hr.lim, hr.env⟩, fun _ h => .inl h, fun _ => Nat.le_add_right _ _⟩

theorem app_grow {T e xT ty : TypeId} {sz by_ : Nat} (hT : elT X.P T = some (e, sz, by_)) {vs vx : Value} {x : AV} {es nes : List (List AV)} (hx : srcV X.P H sz xT x = some nes) (hr : Rel X w φ H) (hvx : VR (Fz w φ) (Sh w) vx x)
    {base : Option Addr} {sLen sCap : Nat} {olds : List Value} (hvs : vs = .slice base sLen sCap) (hn : sLen = es.length) (hes : ∀ c ∈ es, c.length = sz) (hov : VRs (Fz w φ) (Sh w) olds es.flatten)
    (ho : ∀ w', (∀ ad, w'.cell? ad = w.cell? ad) → (Builtin.firstCells sz sLen (.slice base sLen sCap)).run X.P w' = .ok ⟨olds⟩ w')
    (hg : sCap < sLen + nes.length) (hb : (es.length + nes.length) * by_ ≤ 140737488355328) (h63 : es.length + nes.length ≤ 9223372036854775807) {sn : Bool} :
    ∃ b, w.heap.size ≤ b ∧ ∃ v w', (Builtin.append_ #[T, xT] ty #[vs, vx]).run X.P w = .ok v w' ∧ VR (Fz w' φ) (Sh w') v (.row b sz (es.length + nes.length)) ∧ Out X H w φ (H.put b (.row e sz sn (es ++ nes))) w' φ := by
  subst hvs hn
  obtain ⟨news, g1, g2, g3, g4, g5⟩ := src_ok hx hr hvx
  obtain ⟨cap, rest, h1, h2, h3, hcapb⟩ := run_grow (ty := ty) hT g4 ho g5 hg hb h63
  have hsz : (olds ++ news ++ rest).length = cap * sz := by
      rw [List.length_append, List.length_append, hov.len, g1.len, flatten_len hes, flatten_len g2, h3, ← Nat.add_mul, ← Nat.add_mul]
      congr 1; omega
  refine ⟨w.heap.size, Nat.le_refl _, _, _, h1, ?_, ?_⟩
  · have := shape_new w.drew ⟨olds ++ news ++ rest⟩ e
    exact .row this (by simpa using hsz) h2
  · have h4 := row_new (X := X) (H := H) (w := w.drew) (φ := φ) (arr := ⟨olds ++ news ++ rest⟩) (T := e) (es := es ++ nes) (vs := olds ++ news) (rest := rest) (sz := sz) (drew_out hr).rel
      (fun c hc => by rcases List.mem_append.1 hc with h | h
                      · exact hes c h
                      · exact g2 c h) rfl (by rw [List.flatten_append]; exact hov.append g1) (by rw [show (⟨olds ++ news ++ rest⟩ : Array Value).size = (olds ++ news ++ rest).length from rfl, hsz]; exact Nat.mul_le_mul_right _ hcapb)
    have h5 := (drew_out hr).trans h4
    refine ⟨h5.step, ⟨fun c o hc => ?_, h5.rel.lim, h5.rel.env⟩, fun c hc => ?_, h5.drawn⟩
    rotate_left
    · rw [AHeap.get_put] at hc
      split at hc
      · rename_i ec; subst ec; exact .inr (Nat.le_refl _)
      · exact .inl hc
    rw [AHeap.get_put] at hc
    have h6 := h5.rel.obj c
    simp only [World.size_drew, AHeap.get_put] at h6
    split at hc
    · rename_i ec; subst ec; cases hc
      obtain ⟨k1, k2, k3⟩ := h6 _ (if_pos rfl)
      simp at k1
      exact ⟨by rw [k1]; exact Nat.zero_le _, k2, k3⟩
    · rename_i ec
      exact h6 o (by rw [if_neg ec]; exact hc)

theorem AApp_row {T e xT : TypeId} {sz by_ b n : Nat} {sn : Bool} {es nes : List (List AV)} {x : AV} {K : AV → AHeap → Prop} (hT : elT X.P T = some (e, sz, by_)) (hb : H.get b = some (.row e sz sn es)) (hn : n = es.length) (hx : srcV X.P H sz xT x = some nes)
    (hby : (es.length + nes.length) * by_ ≤ 140737488355328) (h63 : es.length + nes.length ≤ 9223372036854775807)
    (hK : ∀ b', (H.del b).get b' = none → K (.row b' sz (es.length + nes.length)) ((H.del b).put b' (.row e sz sn (es ++ nes)))) : AApp X T xT (.row b sz n) x H K := by
  intro ty w φ vs vx hr hvs hvx
  subst hn
  obtain ⟨h0, hl, arr, cur, rest, h1, h2, h3, hbd⟩ := hr.obj b _ hb
  cases hvs
  rename_i cap size hs hsz hncap
  obtain ⟨arr', T', fr', k1, k2⟩ := hs
  rw [h1] at k1; cases k1
  obtain ⟨i, z, g1, g2, g3, g4, g5, g6, g7, g8⟩ := elT_ok hT
  have hfl := flatten_len hl
  have hal : arr.size = cur.length + rest.length := by rw [← Array.length_toList, h2, List.length_append]
  have hcl := h3.len
  rw [hfl] at hcl
  by_cases hroom : es.length + nes.length ≤ cap
  · -- in place
    obtain ⟨news, s1, s2, s3, ⟨d, hd, hdk⟩, s5⟩ := src_ok hx hr hvx
    obtain ⟨s6, s7⟩ := s5 w (fun _ => rfl)
    have hnl := s1.len
    rw [flatten_len s2] at hnl
    have hmul : (es.length + nes.length) * sz ≤ cap * sz := Nat.mul_le_mul_right _ hroom
    rw [Nat.add_mul] at hmul
    obtain ⟨arr', r1, r2, r3⟩ := run_storeCells (P := X.P) news (es.length * sz) 0 w arr h1 (by omega) s3
    have hz : (match d with | .int k => true | _ => false) = false := by cases d <;> first | rfl | exact absurd rfl (hdk _)
    have hk : ∀ j, j < φ b → arr'[j]? = arr[j]? := fun j hj => by
      have hj' : j < es.length * sz := by
        cases sn
        · simp at h0; omega
        · simp at h0; omega
      rw [← Array.getElem?_toList, ← Array.getElem?_toList, r2, Nat.add_zero, List.append_assoc, List.getElem?_append_left (by have hta : arr.toList.length = arr.size := Array.length_toList; rw [List.length_take]; omega), List.getElem?_take, if_pos hj']
    have hOR : OR (blk w b (.cells arr' e (0, 0))) φ b (.row e sz sn (es ++ nes)) := by
      refine ⟨?_, fun c hc => ?_, arr', cur ++ news, rest.drop news.length, blk_same _ (Array.getElem?_eq_some_iff.1 h1).1, ?_, ?_, by rw [r3]; exact hbd⟩
      · cases sn
        · simpa using h0
        · simp only [if_true] at h0 ⊢
          rw [List.length_append, Nat.add_mul]; omega
      · rcases List.mem_append.1 hc with h | h
        · exact hl c h
        · exact s2 c h
      · rw [r2, Nat.add_zero, h2, List.take_append_of_le_length (by omega), List.take_of_length_le (by omega), ← hcl, List.drop_append, List.drop_of_length_le (by omega)]
        simp
      · have hst := blk_step (H := H) (φ := φ) h1 r3 hk (by rw [hb]; simp)
        rw [List.flatten_append]
        exact hst.vrs (h3.append s1)
    have hout := blk_out hr hb h1 r3 hk hOR
    refine ⟨.slice (some ⟨b, 0, none⟩) (es.length + nes.length) cap, _, _, _, φ, ?_, ?_, hK b (by rw [AHeap.get_del, if_pos rfl]), hout.forget (fun c o hc => ?_)⟩
    · simp only [Builtin.append_]
      have e0 : (#[T, xT] : Array TypeId)[0]? = some T := rfl
      have e1 : (#[T, xT] : Array TypeId)[1]? = some xT := rfl
      have e2 : (#[.slice (some ⟨b, 0, none⟩) es.length cap, vx] : Array Value)[0]? = some (.slice (some ⟨b, 0, none⟩) es.length cap) := rfl
      have e3 : (#[.slice (some ⟨b, 0, none⟩) es.length cap, vx] : Array Value)[1]? = some vx := rfl
      have hsz := run_sizeOf (P := X.P) g2
      simp only [e0, e1, e2, e3, Sem.run_bind, run_und g1, Result.andThen_ok, hsz, run_und hd, Sem.run_pure, hz, Bool.false_eq_true, if_false, s6, if_pos hroom, Bool.not_false, if_true, g3, s7, add_none, Nat.zero_add, r1]
    · exact .row ⟨arr', e, (0, 0), blk_same _ (Array.getElem?_eq_some_iff.1 h1).1, by rw [r3, k2]; exact hsz⟩ rfl hroom
    · rw [AHeap.get_put, AHeap.get_del] at hc
      rw [AHeap.get_put]
      split at hc
      · rename_i ec; rw [if_pos ec]; exact hc
      · rename_i ec; rw [if_neg ec]; simpa [ec] using hc
  · -- it moves
    have hr1 : VR (Fz w φ) (Sh w) (.slice (some ⟨b, 0, none⟩) es.length cap) (.row b sz es.length) := .row ⟨arr, e, (0, 0), h1, k2⟩ hsz hncap
    obtain ⟨b', hb', v, w', k3, k4, k5⟩ := app_grow (ty := ty) (sn := sn) (es := es) hT hx hr hvx (sCap := cap) (olds := cur) rfl rfl hl h3
      (fun w' hw => run_firstCells_some (P := X.P) w' sz es.length ⟨b, 0, none⟩ es.length cap cur (by rw [hcl]) (fun j u hj => by
        rw [hw, add_none, Nat.zero_add, cell_row h1, h2, List.getElem?_append_left (List.getElem?_eq_some_iff.1 hj).1]; exact hj)) (by omega) hby h63
    have hnone : H.get b' = none := hr.none hb'
    refine ⟨v, w', _, _, φ, k3, k4, hK b' (by rw [AHeap.get_del]; split <;> simp [hnone]), k5.forget (fun c o hc => ?_)⟩
    rw [AHeap.get_put, AHeap.get_del] at hc
    rw [AHeap.get_put]
    split at hc
    · rename_i ec; rw [if_pos ec]; exact hc
    · rename_i ec
      rw [if_neg ec]
      split at hc
      · cases hc
      · exact hc

theorem AApp_tight {T e xT : TypeId} {sz by_ : Nat} {es nes : List (List AV)} {x : AV} {K : AV → AHeap → Prop} (hT : elT X.P T = some (e, sz, by_)) (hes : ∀ c ∈ es, c.length = sz) (hx : srcV X.P H sz xT x = some nes)
    (hby : (es.length + nes.length) * by_ ≤ 140737488355328) (h63 : es.length + nes.length ≤ 9223372036854775807)
    (h0 : nes = [] → K (.sl true es) H) (hK : nes ≠ [] → ∀ b', H.get b' = none → K (.row b' sz (es.length + nes.length)) (H.put b' (.row e sz false (es ++ nes)))) : AApp X T xT (.sl true es) x H K := by
  intro ty w φ vs vx hr hvs hvx
  obtain ⟨olds, ad, cap, rfl, h2, h3, h4, h5⟩ := firsts_ok (P := X.P) hes hvs
  have hcap := h2 rfl
  subst hcap
  by_cases hm : nes = []
  · obtain ⟨news, s1, s2, s3, ⟨d, hd, hdk⟩, s5⟩ := src_ok hx hr hvx
    obtain ⟨s6, s7⟩ := s5 w (fun _ => rfl)
    obtain ⟨i, z, g1, g2, g3, g4, g5, g6, g7, g8⟩ := elT_ok hT
    have hz : (match d with | .int k => true | _ => false) = false := by cases d <;> first | rfl | exact absurd rfl (hdk _)
    have hnews : news = [] := by have := s1.len; rw [hm] at this; simpa using this
    refine ⟨.slice ad es.length es.length, w, _, _, φ, ?_, hvs, h0 hm, Out.refl hr⟩
    simp only [Builtin.append_]
    have e0 : (#[T, xT] : Array TypeId)[0]? = some T := rfl
    have e1 : (#[T, xT] : Array TypeId)[1]? = some xT := rfl
    have e2 : (#[.slice ad es.length es.length, vx] : Array Value)[0]? = some (.slice ad es.length es.length) := rfl
    have e3 : (#[.slice ad es.length es.length, vx] : Array Value)[1]? = some vx := rfl
    have hsz := run_sizeOf (P := X.P) g2
    have hl0 : nes.length = 0 := by rw [hm]; rfl
    have hle : es.length + nes.length ≤ es.length := by omega
    simp only [e0, e1, e2, e3, Sem.run_bind, run_und g1, Result.andThen_ok, hsz, run_und hd, Sem.run_pure, hz, Bool.false_eq_true, if_false, s6, if_pos hle, Bool.not_false, if_true, g3, s7, hnews]
    cases ad <;> simp [storeCells, hl0]
  · have hpos : 0 < nes.length := List.length_pos_iff.2 hm
    obtain ⟨b', hb', v, w', k3, k4, k5⟩ := app_grow (ty := ty) (sn := false) (es := es) hT hx hr hvx rfl rfl hes h4 h5 (by omega) hby h63
    exact ⟨v, w', _, _, φ, k3, k4, hK hm b' (hr.none hb'), k5⟩

def Gr (e sz : Nat) (H0 : AHeap) (es : List (List AV)) (a : AV) (H : AHeap) : Prop :=
  (a = .sl true [] ∧ es = [] ∧ H = H0) ∨ ∃ b, H0.get b = none ∧ a = .row b sz es.length ∧ H = H0.put b (.row e sz false es)

theorem Gr.nil (e sz : Nat) (H0 : AHeap) : Gr e sz H0 [] (.sl true []) H0 := .inl ⟨rfl, rfl, rfl⟩

end
end Go.AL

/-
  AL, part m: every operation ('AOp'), and that the run does it.
-/
set_option linter.unusedSimpArgs false
set_option linter.unusedVariables false
namespace Go.AL
open Go

def canEnter (P : Program) (f : FuncId) : Bool := match P.funcs[f]? with
  | some fn => fn.name != "runtime.NumGoroutine" && fn.body.isSome
  | none => false

def ACall (X : Ctx) (f : FuncId) (args : List AV) (H : AHeap) (K : AV → AHeap → Prop) : Prop :=
  canEnter X.P f = true ∧ ∀ w φ xs, Rel X w φ H → VRs (Fz w φ) (Sh w) xs args →
    Calls X.P f ⟨xs⟩ w fun e w' => ∃ v av H' φ', e = .returned v ∧ VR (Fz w' φ') (Sh w') v av ∧ K av H' ∧ Out X H w φ H' w' φ'

theorem ACall.mono {X : Ctx} {f : FuncId} {args : List AV} {H : AHeap} {K K' : AV → AHeap → Prop} (h : ACall X f args H K) (hk : ∀ a H, K a H → K' a H) : ACall X f args H K' :=
  ⟨h.1, fun w φ xs hr hx => (h.2 w φ xs hr hx).mono fun _ _ ⟨v, av, H', φ', e, h1, h2, h3⟩ => ⟨v, av, H', φ', e, h1, hk _ _ h2, h3⟩⟩

def AYield (X : Ctx) (l : Nat) (args : List AV) (H : AHeap) (K : AV → AHeap → Prop) : Prop :=
  ∀ w φ xs, Rel X w φ H → VRs (Fz w φ) (Sh w) xs args → ∃ f tmps assign body, (Instr.yield l ⟨xs⟩).run X.P w = .ok (.round l f tmps assign body) w ∧
    RoundIn Fence.wide 0 X.P l f tmps assign body w fun e w' => ∃ v av H' φ', e = .returned v ∧ VR (Fz w' φ') (Sh w') v av ∧ K av H' ∧ Out X H w φ H' w' φ'

theorem AYield.mono {X : Ctx} {l : Nat} {args : List AV} {H : AHeap} {K K' : AV → AHeap → Prop} (h : AYield X l args H K) (hk : ∀ a H, K a H → K' a H) : AYield X l args H K' :=
  fun w φ xs hr hx => let ⟨f, tmps, as, bd, h1, h2⟩ := h w φ xs hr hx
    ⟨f, tmps, as, bd, h1, h2.mono fun _ _ ⟨v, av, H', φ', e, g1, g2, g3⟩ => ⟨v, av, H', φ', e, g1, hk _ _ g2, g3⟩⟩

def litV (sz : Nat) : Nat → List (Nat × AV) → Option (List (List AV))
  | _, [] => some []
  | k, (i, a) :: r => match a.cells with
    | some vs => if i = k ∧ vs.length = sz then (litV sz (k + 1) r).map (vs :: ·) else none
    | none => none

def ptrTo (b : Nat) : AV := .v (.pointer (some ⟨b, 0, none⟩))

def storeV (P : Program) (H : AHeap) (T : TypeId) (a x : AV) : Option AHeap :=
  match x.cells, P.info? T with
  | some vs, some i => if vs.length = i.size ∧ vs.all AV.one then
      match a with
      | .v (.pointer (some ⟨b, off, none⟩)) => match H.get b with
        | some (.box T0 cs) => if off + vs.length ≤ cs.length then some (H.put b (.box T0 (putAt off vs cs))) else none
        | _ => none
      | .rp b sz k o => match H.get b with
        | some (.row T0 sz' false es) => match es[k]? with
          | some e => if sz = sz' ∧ o + vs.length ≤ sz then some (H.put b (.row T0 sz false (es.set k (putAt o vs e)))) else none
          | none => none
        | _ => none
      | _ => none
    else none
  | _, _ => none

def kput {κ : Type} [DecidableEq κ] (k : κ) (a : AV) : List (κ × AV) → List (κ × AV)
  | [] => [(k, a)]
  | p :: es => if p.1 = k then (k, a) :: es else p :: kput k a es

def mapputV (P : Program) (H : AHeap) (T : TypeId) (m k x : AV) : Option AHeap :=
  match P.underlying T, m with
  | some (.map kt _), .v (.map (some b)) => match P.underlying kt, k, H.get b with
    | some .string, .s l, some (.smap es) => some (H.put b (.smap (kput l x es)))
    | some (.int j0), .v (.int j n), some (.imap j' es) => if j = j' ∧ j = j0 then some (H.put b (.imap j (kput n x es))) else none
    | _, _, _ => none
  | _, _ => none

def callV (X : Ctx) (H : AHeap) (ρ : Operand → AV) (c : Call) (K : AV → AHeap → Prop) : Prop :=
  match c.callee with
  | .builtin .append => match c.args.toList, c.argTypes.toList with
    | [s, x], [T, xT] => AApp X T xT (ρ s) (ρ x) H K
    | _, _ => False
  | .builtin b => match builtinV X.P H b c.argTypes (c.args.toList.map ρ) with
    | some av => K av H
    | none => False
  | .value f => match ρ f with
    | .fn (.func g) first captured => ACall X g (first ++ c.args.toList.map ρ ++ captured) H K
    | .fn (.yield l) first [] => AYield X l (first ++ c.args.toList.map ρ) H K
    | _ => False
  | _ => False

def rangeV (P : Program) (H : AHeap) (T : TypeId) (x : AV) (K : AV → AHeap → Prop) : Prop :=
  match P.underlying T, x with
  | some .string, .s l => ∀ r, H.get r = none → K (ptrTo r) (H.put r (.siter l 0))
  | some (.map _ _), .v (.map (some m)) => match H.get m with
    | some (.smap es) => ∀ ents clock r, ents.size = es.length → H.get r = none → K (ptrTo r) ((H.put m (.kmap ents clock (es.map fun p => .s p.1) (es.map (·.2)))).put r (.walk m ents clock []))
    | some (.imap k es) => ∀ ents clock r, ents.size = es.length → H.get r = none → K (ptrTo r) ((H.put m (.kmap ents clock (es.map fun p => .v (.int k p.1)) (es.map (·.2)))).put r (.walk m ents clock []))
    | _ => False
  | _, _ => False
def nextV (H : AHeap) (s : Bool) (it : AV) (K : AV → AHeap → Prop) : Prop :=
  match s, it with
  | false, .v (.pointer (some ⟨r, 0, none⟩)) => match H.get r with
    | some (.walk m ents clock is) => match H.get m with
      | some (.kmap ents' clock' ks vs) => ents' = ents ∧ clock' = clock ∧ (∀ i ∈ is, i < ents.size) ∧ ((∀ i, i < ents.size → i ∈ is) → K (.tup [.v (.bool false)]) H) ∧
          ∀ i k x, i ∉ is → ks[i]? = some k → vs[i]? = some x → K (.tup [.v (.bool true), k, x]) (H.put r (.walk m ents clock (is ++ [i])))
      | _ => False
    | _ => False
  | true, .v (.pointer (some ⟨r, 0, none⟩)) => match H.get r with
    | some (.siter l pos) => if pos < l.length then K (.tup [.v (.bool true), .v (.int .i64 (pos : Int)), .v (.int .i32 (Utf8.decode ⟨⟨l⟩⟩ pos).1)]) (H.put r (.siter l (pos + (Utf8.decode ⟨⟨l⟩⟩ pos).2))) else K (.tup [.v (.bool false)]) H
    | _ => False
  | _, _ => False
def entryV (H : AHeap) (it : AV) (K : AV → AHeap → Prop) : Prop :=
  match it with
  | .v (.pointer (some ⟨r, 0, none⟩)) => match H.get r with
    | some (.walk m ents clock is) => match H.get m, is.getLast? with
      | some (.kmap ents' clock' ks vs), some i => ents' = ents ∧ clock' = clock ∧ (match ks[i]?, vs[i]? with
        | some k, some x => K (.tup [k, x]) H
        | _, _ => False)
      | _, _ => False
    | _ => False
  | _ => False

def AOp (X : Ctx) (H : AHeap) (ρ : Operand → AV) (o : Op) (K : AV → AHeap → Prop) : Prop :=
  match o with
  | .alloc T => match zC X.P T with
    | some cs => ∀ b, H.get b = none → K (ptrTo b) (H.put b (.box T cs))
    | none => False
  | .box T x => match (ρ x).cells with
    | some cs => ∀ b, H.get b = none → K (ptrTo b) (H.put b (.box T cs))
    | none => False
  | .buildSlice T n parts => match elT X.P T with
    | some (e, sz, _) => match litV sz 0 (parts.toList.map fun p => (p.1, ρ p.2)) with
      | some es => if n = parts.size ∧ n * sz ≤ 16777216 then (K (.sl true es) H ∨ ∀ b, H.get b = none → K (.row b sz es.length) (H.put b (.row e sz false es))) else False
      | none => False
    | none => False
  | .makeMap T r => match r, X.P.underlying T with
    | none, some (.map kt _) => match X.P.underlying kt with
      | some .string => ∀ b, H.get b = none → K (.v (.map (some b))) (H.put b (.smap []))
      | some (.int k) => ∀ b, H.get b = none → K (.v (.map (some b))) (H.put b (.imap k []))
      | _ => False
    | _, _ => False
  | .makeSlice T l c => match elT X.P T, ρ l, ρ c with
    | some (e, sz, by_), .v (.int .i64 n), .v (.int .i64 m) => match zC X.P e with
      | some z => if 0 ≤ n ∧ m = n ∧ n * by_ ≤ 281474976710656 ∧ 0 < by_ then ∀ b, H.get b = none → K (.row b sz n.toNat) (H.put b (.row e sz false (List.replicate n.toNat z))) else False
      | none => False
    | _, _, _ => False
  | .store T a x => match storeV X.P H T (ρ a) (ρ x) with
    | some H' => K .top H'
    | none => False
  | .mapUpdate T m k x => match mapputV X.P H T (ρ m) (ρ k) (ρ x) with
    | some H' => K .top H'
    | none => False
  | .insert T m k x => match mapputV X.P H T (ρ m) (ρ k) (ρ x) with
    | some H' => K .top H'
    | none => False
  | .call c => callV X H ρ c K
  | .range T x => rangeV X.P H T (ρ x) K
  | .next it s => nextV H s (ρ it) K
  | .entry it => entryV H (ρ it) K
  | o => match pv X.P H ρ o with
    | some av => K av H
    | none => False

def Does (X : Ctx) (H : AHeap) (w : World) (φ : Nat → Nat) (K : AV → AHeap → Prop) : Result Next → Prop
  | .ok (.value v) w' => ∃ av H' φ', VR (Fz w' φ') (Sh w') v av ∧ K av H' ∧ Out X H w φ H' w' φ'
  | .ok .skip w' => ∃ av H' φ', VR (Fz w' φ') (Sh w') undef av ∧ K av H' ∧ Out X H w φ H' w' φ'
  | .ok (.enter f args) w' => w' = w ∧ Calls X.P f args w fun e w' => ∃ v av H' φ', e = .returned v ∧ VR (Fz w' φ') (Sh w') v av ∧ K av H' ∧ Out X H w φ H' w' φ'
  | .ok (.round l f tmps assign body) w' => w' = w ∧ RoundIn Fence.wide 0 X.P l f tmps assign body w fun e w' => ∃ v av H' φ', e = .returned v ∧ VR (Fz w' φ') (Sh w') v av ∧ K av H' ∧ Out X H w φ H' w' φ'
  | _ => False

section
variable {X : Ctx} {H : AHeap} {w : World} {φ : Nat → Nat} {K : AV → AHeap → Prop}

theorem run_call {ρ : Operand → Value} {ρa : Operand → AV} {c : Call} {dst : Option Tmp} {ty : TypeId} {pos : String} {aft : Array Edge} {gd : Option (Nat × Bool)} (h : callV X H ρa c K) (hρ : ∀ x, VR (Fz w φ) (Sh w) (ρ x) (ρa x)) (hr : Rel X w φ H) :
    Does X H w φ K ((execOp ρ { dst, op := .call c, type := ty, pos, after := aft, guard := gd }).run X.P w) := by
  obtain ⟨callee, ⟨args⟩, ats⟩ := c
  unfold callV at h
  split at h
  · rename_i heq
    simp only at heq
    subst heq
    split at h
    · rename_i s x T xT e1 e2
      simp only at e1 e2
      subst e1
      obtain ⟨ats⟩ := ats
      simp only at e2
      subst e2
      obtain ⟨v, w', av, H', φ', h1, h2, h3, h4⟩ := h ty w φ _ _ hr (hρ s) (hρ x)
      have : (execOp ρ { dst, op := .call { callee := .builtin .append, args := ⟨[s, x]⟩, argTypes := ⟨[T, xT]⟩ }, type := ty, pos, after := aft, guard := gd }).run X.P w = .ok (.value v) w' := by
        unfold execOp
        simp only [resolve, Sem.run_bind, Sem.run_pure, Result.andThen_ok, invoke, builtin]
        have e3 : (Array.map ρ ⟨[s, x]⟩) = #[ρ s, ρ x] := by simp
        rw [e3]
        have h1' : (Builtin.append_ ⟨[T, xT]⟩ ty #[ρ s, ρ x]).run X.P w = .ok v w' := h1
        rw [h1']
        rfl
      rw [this]
      exact ⟨av, H', φ', h2, h3, h4⟩
    · exact h.elim
  · rename_i b hna heq
    simp only at heq
    subst heq
    split at h
    · rename_i av hb
      obtain ⟨v, h1, h2⟩ := builtinV_ok (P := X.P) hb hr (VRs.map hρ args) ty (((⟨args⟩ : Array Operand)).map fun | .const _ => true | _ => false)
      have : (execOp ρ { dst, op := .call { callee := .builtin b, args := ⟨args⟩, argTypes := ats }, type := ty, pos, after := aft, guard := gd }).run X.P w = .ok (.value v) w := by
        unfold execOp
        simp only [resolve, Sem.run_bind, Sem.run_pure, Result.andThen_ok, invoke]
        rw [← h1]
        congr 2
        simp
      rw [this]
      exact ⟨av, H, φ, h2, h, Out.refl hr⟩
    · exact h.elim
  · rename_i f heq
    simp only at heq
    subst heq
    split at h
    · rename_i g first captured hf
      have h1 := hρ f
      rw [hf] at h1
      generalize hx : ρ f = x at h1
      cases h1
      rename_i vs us hvs hus
      obtain ⟨hc, h2⟩ := h
      have hall := (hvs.append (VRs.map hρ args)).append hus
      have h3 := h2 w φ _ hr hall
      have : (execOp ρ { dst, op := .call { callee := .value f, args := ⟨args⟩, argTypes := ats }, type := ty, pos, after := aft, guard := gd }).run X.P w = .ok (.enter g ⟨vs ++ args.map ρ ++ us⟩) w := by
        unfold execOp
        simp only [resolve, hx, Deferred.ofValue, Sem.run_bind, Sem.run_pure, Result.andThen_ok, invoke, callFunc, run_program]
        unfold canEnter at hc
        split at hc
        · rename_i fn hfn
          simp only [Bool.and_eq_true, bne_iff_ne, ne_eq] at hc
          obtain ⟨hc1, hc2⟩ := hc
          have hbn : (fn.name == "runtime.NumGoroutine") = false := by simpa using hc1
          have hbody : fn.body.isNone = false := by cases hb : fn.body <;> simp [hb] at hc2 ⊢
          simp only [hfn, hbn, hbody, Bool.false_eq_true, if_false, Sem.run_pure]
          congr 3
          simp
        · cases hc
      rw [this]
      exact ⟨rfl, h3⟩
    · rename_i l first hf
      have h1 := hρ f
      rw [hf] at h1
      generalize hx : ρ f = x at h1
      cases h1
      rename_i vs us hvs hus
      cases hus
      obtain ⟨f', tm, as', bd, h3, h4⟩ := h w φ _ hr (hvs.append (VRs.map hρ args))
      have : (execOp ρ { dst, op := .call { callee := .value f, args := ⟨args⟩, argTypes := ats }, type := ty, pos, after := aft, guard := gd }).run X.P w = .ok (.round l f' tm as' bd) w := by
        unfold execOp
        simp only [resolve, hx, Deferred.ofValue, Sem.run_bind, Sem.run_pure, Result.andThen_ok, invoke]
        rw [← h3]
        congr 2
        simp
      rw [this]
      exact ⟨rfl, h4⟩
    · exact h.elim
  · exact h.elim

theorem of_pv {ρ : Operand → Value} {ρa : Operand → AV} {o : Oper} (h : match pv X.P H ρa o.op with | some av => K av H | none => False) (hρ : ∀ x, VR (Fz w φ) (Sh w) (ρ x) (ρa x)) (hr : Rel X w φ H) : Does X H w φ K ((execOp ρ o).run X.P w) := by
  split at h
  · rename_i av hav
    obtain ⟨v, h1, h2⟩ := pv_ok hav hρ hr
    rw [h1]
    exact ⟨av, H, φ, h2, h, Out.refl hr⟩
  · exact h.elim

theorem of_val {s : Sem Value} (h : AVal X H w φ s K) : Does X H w φ K ((do pure (Next.value (← s)) : Sem Next).run X.P w) := by
  obtain ⟨v, w', av, H', φ', h1, h2, h3, h4⟩ := h
  rw [Sem.run_bind, h1]
  exact ⟨av, H', φ', h2, h3, h4⟩

theorem box_ok {T : TypeId} {cs : List AV} {arr : Array Value} (hr : Rel X w φ H) (hc : VRs (Fz w φ) (Sh w) arr.toList cs) (h : ∀ b, H.get b = none → K (ptrTo b) (H.put b (.box T cs))) {s : Sem Value}
    (hs : s.run X.P w = .ok (.pointer (some ⟨w.heap.size, 0, none⟩)) (w.alloc (.cells arr T))) : AVal X H w φ s K :=
  ⟨_, _, _, _, _, hs, .v _, h w.heap.size (hr.none (Nat.le_refl _)), box_new hr hc⟩


theorem litV_ok {F : Addr → Value → Prop} {S : Nat → Nat → Prop} {sz : Nat} : ∀ {k : Nat} {parts : List (Nat × Value)} {aparts : List (Nat × AV)} {es : List (List AV)} {cs : Array Value} {pre suf : List AV}, litV sz k aparts = some es →
    parts.map (·.1) = aparts.map (·.1) → VRs F S (parts.map (·.2)) (aparts.map (·.2)) → VRs F S cs.toList (pre ++ suf) → pre.length = k * sz → suf.length = parts.length * sz →
    ∃ cs', Instr.fill (fun i => some (i * sz, sz)) cs parts = some cs' ∧ VRs F S cs'.toList (pre ++ es.flatten) ∧ (∀ e ∈ es, e.length = sz) ∧ es.length = parts.length
  | k, [], [], es, cs, pre, suf, h, _, _, hc, _, hs => by
    simp only [litV, Option.some.injEq] at h
    subst h
    have : suf = [] := by simpa using hs
    subst this
    exact ⟨cs, rfl, by simpa using hc, by simp, rfl⟩
  | _, [], _ :: _, _, _, _, _, _, hp, _, _, _, _ => by simp at hp
  | _, _ :: _, [], _, _, _, _, _, hp, _, _, _, _ => by simp at hp
  | k, (i, v) :: parts, (i', a) :: aparts, es, cs, pre, suf, h, hp, hv, hc, hpre, hs => by
    simp only [List.map_cons, List.cons.injEq] at hp
    obtain ⟨rfl, hp⟩ := hp
    simp only [List.map_cons] at hv
    cases hv with
    | cons hv hvs =>
      simp only [litV] at h
      split at h
      · rename_i vs hcl
        split at h
        · rename_i hl
          obtain ⟨rfl, hl⟩ := hl
          rw [Option.map_eq_some_iff] at h
          obtain ⟨es', h, rfl⟩ := h
          have hcv := cells_ok hcl hv
          have hsz : v.cells.size = sz := by have := hcv.len; rw [Array.length_toList] at this; omega
          have hcs : cs.size = (pre ++ suf).length := by rw [← Array.length_toList]; exact hc.len
          rw [List.length_cons, Nat.succ_mul] at hs
          rw [List.length_append] at hcs
          unfold Instr.fill
          simp only
          have hno : (v.cells.size ≠ sz || i * sz + v.cells.size > cs.size) = false := by
            simp only [ne_eq, hsz, not_true_eq_false, decide_false, Bool.false_or, decide_eq_false_iff_not]; omega
          rw [hno]
          simp only [Bool.false_eq_true, if_false]
          have hfold := fold_set (i * sz) v.cells.toList 0 cs (by simp [hsz]; omega)
          have hzip : v.cells.zipIdx.foldl (fun cs (x : Value × Nat) => cs.setIfInBounds (i * sz + x.2) x.1) cs = (v.cells.toList.zipIdx 0).foldl (fun cs (p : Value × Nat) => cs.setIfInBounds (i * sz + p.2) p.1) cs := by
            rw [← Array.foldl_toList]
            congr 1
            simp
          rw [show (Array.foldl (fun cs x => match x with | (c, j) => cs.setIfInBounds (i * sz + j) c) cs v.cells.zipIdx) = v.cells.zipIdx.foldl (fun cs (x : Value × Nat) => cs.setIfInBounds (i * sz + x.2) x.1) cs from rfl, hzip]
          have hnew : VRs F S ((v.cells.toList.zipIdx 0).foldl (fun cs (p : Value × Nat) => cs.setIfInBounds (i * sz + p.2) p.1) cs).toList ((pre ++ vs) ++ suf.drop sz) := by
            rw [hfold]
            simp only [Nat.add_zero, Array.length_toList, hsz]
            have h1 : cs.toList.take (i * sz) = cs.toList.take pre.length := by rw [hpre]
            have h2 := hc.take pre.length
            rw [List.take_append_of_le_length (Nat.le_refl _), List.take_of_length_le (Nat.le_refl _)] at h2
            have h3 := hc.drop (i * sz + sz)
            rw [List.drop_append, List.drop_of_length_le (l := pre) (by omega), List.nil_append] at h3
            rw [show i * sz + sz - pre.length = sz from by omega] at h3
            rw [h1]
            exact (h2.append hcv).append h3
          obtain ⟨cs', g1, g2, g3, g4⟩ := litV_ok (sz := sz) (k := i + 1) (pre := pre ++ vs) (suf := suf.drop sz) h hp hvs hnew (by rw [List.length_append, Nat.succ_mul]; omega) (by rw [List.length_drop]; omega)
          refine ⟨cs', g1, by simpa [List.append_assoc] using g2, fun e he => ?_, by simp [g4]⟩
          rcases List.mem_cons.1 he with rfl | he
          · exact hl
          · exact g3 e he
        · cases h
      · cases h

theorem VRs.tops {F : Addr → Value → Prop} {S : Nat → Nat → Prop} : ∀ xs : List Value, VRs F S xs (List.replicate xs.length .top)
  | [] => .nil
  | x :: xs => .cons (.top x) (VRs.tops xs)

theorem lit_ok {ρ : Operand → Value} {ρa : Operand → AV} {T e : TypeId} {sz by_ n : Nat} {parts : Array (Nat × Operand)} {es : List (List AV)} (hT : elT X.P T = some (e, sz, by_)) (hl : litV sz 0 (parts.toList.map fun p => (p.1, ρa p.2)) = some es)
    (hn : n = parts.size ∧ n * sz ≤ 16777216) (hρ : ∀ x, VR (Fz w φ) (Sh w) (ρ x) (ρa x)) (hr : Rel X w φ H) (hK : K (.sl true es) H ∨ ∀ b, H.get b = none → K (.row b sz es.length) (H.put b (.row e sz false es))) :
    AVal X H w φ (Instr.buildSlice T n (parts.map fun p => (p.1, ρ p.2))) K := by
  obtain ⟨parts⟩ := parts
  obtain ⟨rfl, hn⟩ := hn
  obtain ⟨i, z, h1, h2, h3, h4, h5, h6, h7, h8⟩ := elT_ok hT
  subst h3
  have hlen : (⟨parts⟩ : Array (Nat × Operand)).size = parts.length := rfl
  rw [hlen] at hn
  let init : Array Value := (Array.range (parts.length * i.size)).map fun j => (if parts.length * i.size = 0 then #[] else z.cells)[j % (if parts.length * i.size = 0 then #[] else z.cells).size]!
  have hinit : init.toList.length = parts.length * i.size := by simp [init]
  have hv : VRs (Fz w φ) (Sh w) ((parts.map fun p => (p.1, ρ p.2)).map (·.2)) ((parts.map fun p => (p.1, ρa p.2)).map (·.2)) := by
    simpa [Function.comp_def] using VRs.map (F := Fz w φ) (S := Sh w) hρ (parts.map (·.2))
  obtain ⟨cs', g1, g2, g3, g4⟩ := litV_ok (F := Fz w φ) (S := Sh w) (sz := i.size) (k := 0) (parts := parts.map fun p => (p.1, ρ p.2)) (cs := init) (pre := []) (suf := List.replicate init.toList.length .top) hl (by simp) hv
    (by simpa using VRs.tops init.toList) (by simp) (by simp [hinit])
  rw [List.nil_append] at g2
  rw [List.length_map] at g4
  obtain ⟨φ', o1, o2⟩ := frozen_new (X := X) hr (T := e) g2
  have hfl : es.flatten.length = es.length * i.size := flatten_len g3
  have hrun : (Instr.buildSlice T parts.length ((⟨parts⟩ : Array (Nat × Operand)).map fun p => (p.1, ρ p.2))).run X.P w = .ok (.slice (some ⟨w.heap.size, 0, none⟩) es.length es.length) (w.alloc (.cells cs' e)) := by
    have h10 : ¬ (2 ^ 24 < parts.length * i.size) := by omega
    unfold Instr.buildSlice
    simp only [Sem.run_bind, run_und h1, Result.andThen_ok, run_sizeOf h2, hlen]
    rw [if_neg h10]
    have hm : (Array.map (fun p => (p.1, ρ p.2)) (⟨parts⟩ : Array (Nat × Operand))).toList = parts.map fun p => (p.1, ρ p.2) := by simp
    by_cases h0 : parts.length * i.size = 0
    · rw [if_pos h0]
      simp only [init, if_pos h0] at g1
      simp only [Sem.run_bind, Sem.run_pure, Result.andThen_ok, hm, g1]
      simp [newRow, g4]
    · rw [if_neg h0]
      simp only [init, if_neg h0] at g1
      simp only [Sem.run_bind, h7, Sem.run_pure, Result.andThen_ok, hm, g1]
      simp [newRow, g4]
  rcases hK with hK | hK
  rotate_left
  · have hnone : H.get w.heap.size = none := hr.none (Nat.le_refl _)
    have hsz0 : cs'.size = es.length * i.size := by
      have := g2.len
      rw [Array.length_toList] at this
      rw [this, hfl]
    have hbd : cs'.size ≤ 9223372036854775807 * i.size := by
      rw [hsz0, g4]
      rcases Nat.eq_zero_or_pos i.size with h | h
      · rw [h]; simp
      · have := Nat.mul_le_mul_left parts.length h
        exact Nat.mul_le_mul_right _ (by omega)
    have o3 := row_new (X := X) hr (T := e) (arr := cs') (es := es) (vs := cs'.toList) (rest := []) (sz := i.size) g3 (by simp) g2 hbd
    have hsz : cs'.size = es.length * i.size := by
      have := g2.len
      rw [Array.length_toList] at this
      rw [this, hfl]
    exact ⟨_, _, _, _, φ, hrun, .row (shape_new w cs' e) hsz (Nat.le_refl _), hK _ hnone, o3⟩
  refine ⟨.slice (some ⟨w.heap.size, 0, none⟩) es.length es.length, _, _, _, φ', hrun, ?_, hK, o1⟩
  · have hers : ERs (Fz (w.alloc (.cells cs' e)) φ') (Sh (w.alloc (.cells cs' e))) ⟨w.heap.size, 0, none⟩ i.size 0 es :=
      ERs.of_get _ _ (fun k c hk => by
        have hcl := g3 c (List.mem_of_getElem? hk)
        refine ⟨hcl, CRs.of_get _ _ (fun j a hj => ?_)⟩
        have := flatten_get g3 k j c a hk hj
        obtain ⟨u, u1, u2⟩ := o2.get _ a this
        rw [Nat.zero_add] at u1
        exact ⟨u, by rw [Nat.zero_add]; exact u1, u2⟩)
    exact .sl hers (Nat.le_refl _) (fun _ => rfl)

end
end Go.AL

/-
  AL, part n: make, stores into rows, maps that are written; every operation.
-/
set_option linter.unusedSimpArgs false
set_option linter.unusedVariables false
namespace Go.AL
open Go

section
variable {X : Ctx} {H : AHeap} {w : World} {φ : Nat → Nat} {K : AV → AHeap → Prop} {P : Program}

theorem zeros_ok {F : Addr → Value → Prop} {S : Nat → Nat → Prop} {z : Array Value} {zc : List AV} (h : VRs F S z.toList zc) (hp : 0 < zc.length) (n : Nat) :
    VRs F S (((Array.range (n * zc.length)).map fun j => z[j % z.size]!).toList) (List.replicate n zc).flatten := by
  have hz : z.size = zc.length := by rw [← Array.length_toList]; exact h.len
  have hfl : (List.replicate n zc).flatten.length = n * zc.length := by
    rw [flatten_len (sz := zc.length) (fun e he => by rw [List.eq_of_mem_replicate he]), List.length_replicate]
  refine VRs.of_get (by simp [hfl]) (fun j x a hx ha => ?_)
  have hj : j < n * zc.length := by have := (List.getElem?_eq_some_iff.1 ha).1; omega
  have hjm : j % zc.length < zc.length := Nat.mod_lt _ hp
  have hjd : j / zc.length < n := by rw [Nat.div_lt_iff_lt_mul hp]; exact hj
  have e1 : (List.replicate n zc).flatten[j / zc.length * zc.length + j % zc.length]? = some zc[j % zc.length] :=
    flatten_get (sz := zc.length) (fun e he => by rw [List.eq_of_mem_replicate he]) _ _ zc _ (by rw [List.getElem?_replicate, if_pos hjd]) (List.getElem?_eq_getElem hjm)
  rw [Nat.div_add_mod'] at e1
  rw [e1] at ha
  cases ha
  have hx' : x = z[j % z.size]! := by
    simp only [Array.toList_map, Array.toList_range, List.getElem?_map, List.getElem?_range hj, Option.map_some] at hx
    exact (Option.some.inj hx).symm
  subst hx'
  have hlt : j % z.size < z.size := by rw [hz]; exact hjm
  rw [getElem!_pos z _ hlt]
  exact h.get' (j % z.size) _ _ (by rw [Array.getElem?_toList]; exact Array.getElem?_eq_getElem hlt) (by rw [hz]; exact List.getElem?_eq_getElem hjm)

theorem wrap_small {n : Int} (h0 : 0 ≤ n) (h : n ≤ 9223372036854775807) : IntKind.i64.wrap n = n := IntWalk.i64_in n (by omega)

theorem make_ok {T e : TypeId} {sz by_ : Nat} {n : Int} {zc : List AV} (hT : elT X.P T = some (e, sz, by_)) (hz : zC X.P e = some zc) (hc : 0 ≤ n ∧ n * by_ ≤ 281474976710656 ∧ 0 < by_) (hr : Rel X w φ H)
    (hK : ∀ b, H.get b = none → K (.row b sz n.toNat) (H.put b (.row e sz false (List.replicate n.toNat zc)))) : AVal X H w φ (Instr.makeSlice T (.int .i64 n) (.int .i64 n)) K := by
  obtain ⟨i, z, h1, h2, h3, h4, h5, h6, h7, h8⟩ := elT_ok hT
  obtain ⟨inf, z', g1, g2, g3, g4⟩ := zC_ok (F := Fz w φ) (S := Sh w) hz
  rw [h2] at g1; cases g1
  rw [h6] at g2; cases g2
  obtain ⟨hc0, hc1, hc2⟩ := hc
  have hzl : zc.length = sz := by have := g4.len; rw [Array.length_toList] at this; omega
  have hnle : n ≤ 281474976710656 := by
    have h9 : n * 1 ≤ n * (by_ : Int) := Int.mul_le_mul_of_nonneg_left (by omega) hc0
    omega
  have hw := wrap_small hc0 (by omega)
  have hrow := row_new (X := X) (H := H) (w := w) (φ := φ) (T := e) (sz := sz) (rest := []) (es := List.replicate n.toNat zc) (arr := (Array.range (n.toNat * zc.length)).map fun j => z.cells[j % z.cells.size]!) hr
    (fun c hc => by rw [List.eq_of_mem_replicate hc, hzl]) (List.append_nil _).symm (zeros_ok g4 (by omega) n.toNat) (by simp only [Array.size_map, Array.size_range, hzl]; exact Nat.mul_le_mul_right _ (by omega))
  refine ⟨.slice (some ⟨w.heap.size, 0, none⟩) n.toNat n.toNat, _, _, _, φ, ?_, ?_, hK _ (hr.none (Nat.le_refl _)), hrow⟩
  · unfold Instr.makeSlice
    have hti : ∀ w, (typeInfo e).run X.P w = .ok i w := fun w => by simp [typeInfo, h2]
    simp only [Sem.run_bind, run_und h1, Result.andThen_ok, asInt, asIntOf, Sem.run_pure, hti, hw, h4]
    have ht : decide ((by_ : Int) * n > 2 ^ 48) = false := by
      have e1 : (2 ^ 48 : Int) = 281474976710656 := by decide
      have e2 : (by_ : Int) * n = n * by_ := Int.mul_comm _ _
      rw [e1, e2]
      exact decide_eq_false (by omega)
    have hn0 : decide (n < 0) = false := by simp; omega
    have hnn : decide (n > n) = false := by simp
    simp only [ht, hn0, hnn, Bool.or_false, Bool.false_or, Bool.false_eq_true, if_false, Sem.run_bind, run_askRoom, Result.andThen_ok, run_sizeOf h2, h3]
    by_cases h0 : n.toNat * sz = 0
    · rw [if_pos h0]
      have hzn : n.toNat * zc.length = 0 := by rw [hzl]; exact h0
      have er : Array.range 0 = #[] := rfl
      simp [newRow, h0, hzn, er]
    · rw [if_neg h0]
      simp [newRow, h7, hzl, Sem.run_bind]
  · have := shape_new w ((Array.range (n.toNat * zc.length)).map fun j => z.cells[j % z.cells.size]!) e
    exact .row this (by simp [hzl]) (Nat.le_refl _)

end
end Go.AL

/-
  AL, part o: stores.
-/
set_option linter.unusedSimpArgs false
set_option linter.unusedVariables false
namespace Go.AL
open Go
section
variable {X : Ctx} {H : AHeap} {w : World} {φ : Nat → Nat} {K : AV → AHeap → Prop} {P : Program}

theorem store_row (hr : Rel X w φ H) {b k o sz : Nat} {T T0 : TypeId} {es : List (List AV)} {e vs : List AV} {i : TypeInfo} {x : Value} (hb : H.get b = some (.row T0 sz false es)) (hk : es[k]? = some e) (hi : P.info? T = some i) (hl : vs.length = i.size)
    (hoff : o + vs.length ≤ sz) (ho : vs.all AV.one = true) (hv : VRs (Fz w φ) (Sh w) x.cells.toList vs) :
    ∃ w', (Instr.storeAt T (.pointer (some ⟨b, k * sz + o, none⟩)) x).run P w = .ok () w' ∧ Out X H w φ (H.put b (.row T0 sz false (es.set k (putAt o vs e)))) w' φ := by
  obtain ⟨h0, hle, arr, cur, rest, h1, h2, h3, hbd⟩ := hr.obj b _ hb
  simp at h0
  have hlen := hv.len
  have hfl := flatten_len hle
  have hcl := h3.len
  rw [hfl] at hcl
  have hkl : k < es.length := (List.getElem?_eq_some_iff.1 hk).1
  have hel := hle e (List.mem_of_getElem? hk)
  have hal : arr.size = cur.length + rest.length := by rw [← Array.length_toList, h2, List.length_append]
  have hmul : (k + 1) * sz ≤ es.length * sz := Nat.mul_le_mul_right _ hkl
  rw [Nat.succ_mul] at hmul
  obtain ⟨arr', g1, g2, g3⟩ := run_storeCells (P := P) x.cells.toList (k * sz + o) 0 w arr h1 (by omega) (fun u hu => by
    obtain ⟨j, hj⟩ := List.getElem?_of_mem hu
    have hj' : j < vs.length := by rw [← hlen]; exact (List.getElem?_eq_some_iff.1 hj).1
    exact one_ok (List.all_eq_true.1 ho _ (List.getElem_mem hj')) (hv.get' j u _ hj (List.getElem?_eq_getElem hj')))
  rw [Nat.add_zero] at g2
  have hst := blk_step (H := H) (φ := φ) h1 g3 (fun j hj => by omega) (by rw [hb]; simp)
  have hpl : (putAt o vs e).length = sz := by unfold putAt; simp; omega
  refine ⟨_, ?_, blk_out hr hb h1 g3 (fun j hj => by omega) ⟨by simpa using h0, fun c hc => ?_, arr', cur.take (k * sz + o) ++ x.cells.toList ++ cur.drop (k * sz + o + x.cells.toList.length), rest, blk_same _ (Array.getElem?_eq_some_iff.1 h1).1, ?_, ?_, by rw [g3]; exact hbd⟩⟩
  · unfold Instr.storeAt storeVar
    simp only [Instr.sureAddr, Sem.run_bind, Sem.run_pure, Result.andThen_ok, run_sizeOf hi]
    rw [if_neg (by rw [ne_eq, Decidable.not_not, ← hl, ← hlen, Array.length_toList])]
    exact g1
  · rcases List.mem_or_eq_of_mem_set hc with h | h
    · exact hle c h
    · rw [h]; exact hpl
  · rw [g2, h2, List.take_append_of_le_length (by omega), List.drop_append, List.append_assoc, List.append_assoc, List.append_assoc]
    congr 3
    rw [show k * sz + o + x.cells.toList.length - cur.length = 0 from by omega]; rfl
  · have hf : (es.set k (putAt o vs e)).flatten = putAt (k * sz + o) vs es.flatten := by
      have e0 : es = es.take k ++ e :: es.drop (k + 1) := by
        obtain ⟨_, he⟩ := List.getElem?_eq_some_iff.1 hk
        have h := List.take_append_drop k es
        rw [List.drop_eq_getElem_cons hkl, he] at h
        exact h.symm
      have htl : (es.take k).flatten.length = k * sz := by rw [flatten_len (fun c hc => hle c (List.mem_of_mem_take hc)), List.length_take, Nat.min_eq_left (Nat.le_of_lt hkl)]
      have e1 : es.set k (putAt o vs e) = es.take k ++ putAt o vs e :: es.drop (k + 1) := List.set_eq_take_append_cons_drop.trans (by rw [if_pos hkl])
      have e2 : es.flatten = (es.take k).flatten ++ (e ++ (es.drop (k + 1)).flatten) := by
        conv => lhs; rw [e0]
        rw [List.flatten_append, List.flatten_cons]
      rw [e1, List.flatten_append, List.flatten_cons, e2]
      unfold putAt
      rw [List.take_append, List.take_of_length_le (l := (es.take k).flatten) (by omega), htl, show k * sz + o - k * sz = o from by omega, List.take_append_of_le_length (by omega),
        List.drop_append, List.drop_of_length_le (l := (es.take k).flatten) (by omega), htl, show k * sz + o + vs.length - k * sz = o + vs.length from by omega, List.drop_append, show o + vs.length - e.length = 0 from by omega]
      simp [List.append_assoc]
    rw [hf]
    exact hst.vrs (h3.putAt hv _)

theorem storeV_ok {T : TypeId} {a x : AV} {H' : AHeap} {va vx : Value} (h : storeV X.P H T a x = some H') (hr : Rel X w φ H) (ha : VR (Fz w φ) (Sh w) va a) (hx : VR (Fz w φ) (Sh w) vx x) :
    ∃ w', (Instr.storeAt T va vx).run X.P w = .ok () w' ∧ Out X H w φ H' w' φ := by
  unfold storeV at h
  split at h
  · rename_i vs i hc hi
    split at h
    · rename_i hv
      obtain ⟨hv1, hv2⟩ := hv
      have hcv := cells_ok hc hx
      split at h
      · rename_i b off
        cases ha
        split at h
        · rename_i T0 cs hb
          split at h
          · rename_i hoff
            cases h
            exact store_box hr hb hi hv1 hoff hv2 hcv
          · cases h
        · cases h
      · rename_i b sz k o
        cases ha
        split at h
        · rename_i T0 sz' es hb
          split at h
          · rename_i e hk
            split at h
            · rename_i hc'
              obtain ⟨rfl, hoff⟩ := hc'
              cases h
              exact store_row hr hb hk hi hv1 hoff hv2 hcv
            · cases h
          · cases h
        · cases h
      · cases h
    · cases h
  · cases h


section
variable {κ : Type} [DecidableEq κ] (Kk : KeyKind κ)

theorem kput_none {k : κ} {a : AV} : ∀ {es : List (κ × AV)}, (∀ p ∈ es, p.1 ≠ k) → kput k a es = es ++ [(k, a)]
  | [], _ => rfl
  | p :: es, h => by
    simp only [kput, if_neg (h p (by simp)), List.cons_append]
    rw [kput_none (fun q hq => h q (by simp [hq]))]
theorem kput_at {k : κ} {a b : AV} : ∀ {es : List (κ × AV)} {j : Nat}, es[j]? = some (k, b) → (∀ p ∈ es.take j, p.1 ≠ k) → kput k a es = es.set j (k, a)
  | [], j, h, _ => by simp at h
  | p :: es, 0, h, _ => by
    simp at h
    subst h
    simp [kput]
  | p :: es, j + 1, h, h2 => by
    simp at h
    have h3 : p.1 ≠ k := h2 p (by simp)
    simp only [kput, if_neg h3, List.set_cons_succ]
    rw [kput_at h (fun q hq => h2 q (by simp [hq]))]

theorem map_out {b : Nat} {a a' : AObj} {ents ents' : Array MapEntry} {c c' : Nat} (hr : Rel X w φ H) (ha : H.get b = some a) (h : w.heap[b]? = some (.map ents c))
    (ho : Step H w φ (blk w b (.map ents' c')) φ → OR (blk w b (.map ents' c')) φ b a') : Out X H w φ (H.put b a') (blk w b (.map ents' c')) φ := by
  have hblt : b < w.heap.size := (Array.getElem?_eq_some_iff.1 h).1
  have hst : Step H w φ (blk w b (.map ents' c')) φ := by
    refine ⟨rfl, rfl, rfl, by rw [blk_size]; exact Nat.le_refl _, fun ad u hu => ⟨?_, hu.2⟩, fun d n hd => ?_, fun d hd hdn => ?_⟩
    · obtain ⟨h1, _⟩ := hu
      have e : ad.block ≠ b := fun e => by
        unfold World.cell? at h1
        rw [e, h] at h1
        cases h1
      rw [World.cell?_of_block (w := w) (blk_other _ e)]
      exact h1
    · obtain ⟨arr, T, fr, h1, h2⟩ := hd
      have e : d ≠ b := fun e => by rw [e, h] at h1; cases h1
      exact ⟨arr, T, fr, by rw [blk_other _ e]; exact h1, h2⟩
    · have e : d ≠ b := fun e => by rw [e, ha] at hdn; cases hdn
      exact ⟨blk_other _ e, rfl⟩
  refine ⟨hst, ⟨fun d o hd => ?_, fun d hd => ?_, X.mono _ _ hst.fz hr.env⟩, fun d hd => ?_, fun _ => Nat.le_refl _⟩
  · rw [AHeap.get_put] at hd
    split at hd
    · rename_i e; subst e; cases hd; exact ho hst
    · rename_i e; exact (hr.obj d o hd).keep (blk_other _ e) rfl hst.fz hst.sh
  · rw [blk_size] at hd; exact hr.lim d hd
  · rw [AHeap.get_put] at hd
    split at hd
    · rename_i e; subst e; left; rw [ha]; simp
    · exact .inl hd

theorem mapput_ok {T kt et : TypeId} {b : Nat} {o o' : AObj} {k : κ} {es : List (κ × AV)} {a : AV} {x : Value} (hr : Rel X w φ H) (hb : H.get b = some o)
    (hm : OM w φ b (es.map fun p => Kk.av p.1) (es.map (·.2))) (hT : X.P.underlying T = some (.map kt et)) (hu : X.P.underlying kt = some Kk.und) (hkv : ∀ {F S}, VR F S (Kk.enc k) (Kk.av k)) (hx : VR (Fz w φ) (Sh w) x a)
    (ho' : ∀ w, OM w φ b ((kput k a es).map fun p => Kk.av p.1) ((kput k a es).map (·.2)) → OR w φ b o') :
    ∃ w', (Instr.mapUpdate T (.map (some b)) (Kk.enc k) x).run X.P w = .ok () w' ∧ Out X H w φ (H.put b o') w' φ := by
  obtain ⟨h0, ents, clock, h1, h2, h3, hst0⟩ := hm
  have hg : (getObj b).run X.P w = .ok (.map ents clock) w := by simp [getObj, Sem.run, h1]
  have hc := run_checkKey (P := X.P) (w := w) Kk hu false 9999 (Kk.enc k)
  have hso : ∀ o, (setObj b o).run X.P w = .ok () (blk w b o) := fun o => by simp [setObj, Sem.run, h1, blk]
  have hblt : b < w.heap.size := (Array.getElem?_eq_some_iff.1 h1).1
  rcases findNow_ok Kk k ents.toList es 0 h2 h3 with ⟨g1, g2, g3⟩ | ⟨j, e, a0, g1, g2, g3, g4, g5, g6, g7⟩
  · have hf := run_findKey Kk hu g2 w
    refine ⟨blk w b (.map (ents.push { key := Kk.enc k, val := x, born := clock }) (clock + 1)), ?_, map_out hr hb h1 (fun hst => ho' _ ⟨h0, _, _, blk_same _ hblt, ?_, ?_, ?_⟩)⟩
    · unfold Instr.mapUpdate
      simp only [Sem.run_bind, run_und hT, Result.andThen_ok, hg]
      rw [show (10000 : Nat) = 9999 + 1 from rfl, hc]
      simp only [Result.andThen_ok, hf, hso]
    · rw [kput_none g3]
      simp only [Array.toList_push, List.map_append, List.map_cons, List.map_nil]
      exact (hst.vrs h2).append (.cons hkv .nil)
    · rw [kput_none g3]
      simp only [Array.toList_push, List.map_append, List.map_cons, List.map_nil]
      exact (hst.vrs h3).append (.cons (hst.vr hx) .nil)
    · refine MapKept.stamped_push hst0 (fun y hy ey => ?_)
      obtain ⟨i, hi, rfl⟩ := List.getElem_of_mem hy
      have hlen := h2.len
      simp only [List.length_map] at hlen
      have hi2 : i < es.length := by omega
      have := h2.get' i (ents.toList[i].key) (Kk.av es[i].1) (by rw [List.getElem?_map, List.getElem?_eq_getElem hi]; rfl) (by rw [List.getElem?_map, List.getElem?_eq_getElem hi2]; rfl)
      have e1 := Kk.inv this
      rw [ey] at e1
      have hs := Kk.same k es[i].1
      rw [e1, Kk.same] at hs
      have hne := g3 es[i] (List.getElem_mem hi2)
      simp at hs
      exact hne hs.symm
  · have hf := run_findKey Kk hu g2 w
    rw [Nat.zero_add] at hf
    have hjl : j < ents.size := by have := (List.getElem?_eq_some_iff.1 g3).1; simpa using this
    have hej : ents[j]? = some e := by rw [← Array.getElem?_toList]; exact g3
    refine ⟨blk w b (.map (ents.modify j fun e => { e with key := Kk.enc k, val := x }) clock), ?_, map_out hr hb h1 (fun hst => ho' _ ⟨h0, _, _, blk_same _ hblt, ?_, ?_, ?_⟩)⟩
    · unfold Instr.mapUpdate
      simp only [Sem.run_bind, run_und hT, Result.andThen_ok, hg]
      rw [show (10000 : Nat) = 9999 + 1 from rfl, hc]
      simp only [Result.andThen_ok, hf, Sem.run_bind]
      have hks : (Instr.keyThatStays (((ents[j]?).map (·.key)).getD (Kk.enc k)) (Kk.enc k)).run X.P w = .ok (Kk.enc k) w := by
        rw [hej]
        simp only [Option.map_some, Option.getD_some, g5]
        unfold Instr.keyThatStays
        rw [Kk.bits]
        rfl
      rw [hks]
      simp only [Result.andThen_ok, hso]
    · rw [kput_at g4 g7]
      refine VRs.of_get ?_ (fun i y c hy hcc => ?_)
      · have := h2.len; simp at this ⊢; exact this
      · rw [List.getElem?_map] at hy hcc
        rw [Array.getElem?_toList, Array.getElem?_modify] at hy
        rw [List.getElem?_set] at hcc
        by_cases eij : j = i
        · subst eij
          rw [if_pos rfl, hej] at hy
          simp at hy
          have hl : j < es.length := (List.getElem?_eq_some_iff.1 g4).1
          rw [if_pos rfl, if_pos hl] at hcc
          simp at hcc
          subst hy hcc
          exact hkv
        · rw [if_neg eij] at hy hcc
          exact (hst.vrs h2).get' i y c (by rw [List.getElem?_map, Array.getElem?_toList]; exact hy) (by rw [List.getElem?_map]; exact hcc)
    · rw [kput_at g4 g7]
      refine VRs.of_get ?_ (fun i y c hy hcc => ?_)
      · have := h3.len; simp at this ⊢; exact this
      · rw [List.getElem?_map] at hy hcc
        rw [Array.getElem?_toList, Array.getElem?_modify] at hy
        rw [List.getElem?_set] at hcc
        by_cases eij : j = i
        · subst eij
          rw [if_pos rfl, hej] at hy
          simp at hy
          have hl : j < es.length := (List.getElem?_eq_some_iff.1 g4).1
          rw [if_pos rfl, if_pos hl] at hcc
          simp at hcc
          subst hy hcc
          exact hst.vr hx
        · rw [if_neg eij] at hy hcc
          exact (hst.vrs h3).get' i y c (by rw [List.getElem?_map, Array.getElem?_toList]; exact hy) (by rw [List.getElem?_map]; exact hcc)
    · exact MapKept.stamped_modify hst0 j _ (fun _ _ => rfl) (fun e' _ he' => by
        rw [hej] at he'; cases he'; exact g5.symm)

end

theorem mapputV_ok {T : TypeId} {m k x : AV} {H' : AHeap} {vm vk vx : Value} (h : mapputV X.P H T m k x = some H') (hr : Rel X w φ H) (hm : VR (Fz w φ) (Sh w) vm m) (hk : VR (Fz w φ) (Sh w) vk k) (hx : VR (Fz w φ) (Sh w) vx x) :
    ∃ w', (Instr.mapUpdate T vm vk vx).run X.P w = .ok () w' ∧ Out X H w φ H' w' φ := by
  unfold mapputV at h
  split at h
  · rename_i kt et b hT
    cases hm
    split at h
    · rename_i l es hu hb
      cases h
      have hk' := strKey.inv hk
      subst hk'
      exact mapput_ok strKey (o' := .smap (kput l x es)) hr hb (hr.obj b _ hb) hT hu (fun {F S} => .s _) hx (fun w hw => hw)
    · rename_i j0 j n j' es hu hb
      split at h
      · rename_i e
        obtain ⟨rfl, rfl⟩ := e
        cases h
        have hk' := (intKey j).inv hk
        subst hk'
        exact mapput_ok (intKey j) (o' := .imap j (kput n x es)) hr hb (hr.obj b _ hb) hT hu (fun {F S} => .v _) hx (fun w hw => hw)
      · cases h
    · cases h
  · cases h

theorem nc_out {b : Nat} {a a' : AObj} {o o' : Obj} (hr : Rel X w φ H) (ha : H.get b = some a) (h : w.heap[b]? = some o) (hc : (match o with | .mapIter .. | .loop .. | .map .. | .stringIter .. => true | _ => false) = true)
    (ho : Step H w φ (blk w b o') φ → OR (blk w b o') φ b a') : Out X H w φ (H.put b a') (blk w b o') φ := by
  have hblt : b < w.heap.size := (Array.getElem?_eq_some_iff.1 h).1
  have hst : Step H w φ (blk w b o') φ := by
    refine ⟨rfl, rfl, rfl, by rw [blk_size]; exact Nat.le_refl _, fun ad u hu => ⟨?_, hu.2⟩, fun d n hd => ?_, fun d hd hdn => ?_⟩
    · obtain ⟨h1, _⟩ := hu
      have e : ad.block ≠ b := fun e => by
        unfold World.cell? at h1
        rw [e, h] at h1
        cases o <;> first | (cases hc; done) | cases h1
      rw [World.cell?_of_block (w := w) (blk_other _ e)]
      exact h1
    · obtain ⟨arr, T, fr, h1, h2⟩ := hd
      have e : d ≠ b := fun e => by rw [e, h] at h1; cases h1; cases hc
      exact ⟨arr, T, fr, by rw [blk_other _ e]; exact h1, h2⟩
    · have e : d ≠ b := fun e => by rw [e, ha] at hdn; cases hdn
      exact ⟨blk_other _ e, rfl⟩
  refine ⟨hst, ⟨fun d o hd => ?_, fun d hd => ?_, X.mono _ _ hst.fz hr.env⟩, fun d hd => ?_, fun _ => Nat.le_refl _⟩
  · rw [AHeap.get_put] at hd
    split at hd
    · rename_i e; subst e; cases hd; exact ho hst
    · rename_i e; exact (hr.obj d o hd).keep (blk_other _ e) rfl hst.fz hst.sh
  · rw [blk_size] at hd; exact hr.lim d hd
  · rw [AHeap.get_put] at hd
    split at hd
    · rename_i e; subst e; left; rw [ha]; simp
    · exact .inl hd

theorem nodup_inj {α : Type} : ∀ {l : List α} {i j : Nat} {a : α}, l.Nodup → l[i]? = some a → l[j]? = some a → i = j
  | [], _, _, _, _, h, _ => by simp at h
  | x :: l, i, j, a, hn, h1, h2 => by
    rw [List.nodup_cons] at hn
    cases i with
    | zero =>
      cases j with
      | zero => rfl
      | succ j => simp at h1 h2; subst h1; exact absurd (List.mem_of_getElem? h2) hn.1
    | succ i =>
      cases j with
      | zero => simp at h1 h2; subst h2; exact absurd (List.mem_of_getElem? h1) hn.1
      | succ j => simp at h1 h2; rw [nodup_inj hn.2 h1 h2]

theorem Out.retell {b : Nat} {a a' : AObj} (hr : Rel X w φ H) (ha : H.get b = some a) (ho : OR w φ b a') : Out X H w φ (H.put b a') w φ :=
  ⟨Step.refl _ _ _, ⟨fun d o hd => by
    rw [AHeap.get_put] at hd
    split at hd
    · rename_i e; subst e; cases hd; exact ho
    · exact hr.obj d o hd, hr.lim, hr.env⟩, fun d hd => by
    rw [AHeap.get_put] at hd
    split at hd
    · rename_i e; subst e; left; rw [ha]; simp
    · exact .inl hd, fun _ => Nat.le_refl _⟩

theorem rangeV_ok {T : TypeId} {x : AV} {v : Value} (h : rangeV X.P H T x K) (hr : Rel X w φ H) (hx : VR (Fz w φ) (Sh w) v x) : AVal X H w φ (Instr.range T v) K := by
  unfold rangeV at h
  split at h
  · rename_i l hT
    have o2 := alloc_own (.stringIter ⟨⟨l⟩⟩ 0) (.siter l 0) (φ' := φ) (fun _ _ => rfl) hr ⟨hr.lim _ (Nat.le_refl _), by rw [heap_new]⟩
    have hx' := strKey.inv hx
    subst hx'
    refine ⟨.pointer (some ⟨w.heap.size, 0, none⟩), _, _, _, _, ?_, .v _, h w.heap.size (hr.none (Nat.le_refl _)), o2⟩
    unfold Instr.range
    simp [Sem.run_bind, run_und hT, getObj, Sem.run, newObj, Result.andThen]
    rfl
  · rename_i kt et m hT
    cases hx
    have key : ∀ {a : AObj} {ks vs : List AV}, H.get m = some a → OM w φ m ks vs → (∀ ents clock r, ents.size = ks.length → H.get r = none → K (ptrTo r) ((H.put m (.kmap ents clock ks vs)).put r (.walk m ents clock []))) →
        AVal X H w φ (Instr.range T (.map (some m))) K := fun {a ks vs} hb hm hk => by
      obtain ⟨h1, ents, clock, h2, h3, h4, h5⟩ := hm
      have hlen := h3.len
      rw [List.length_map, Array.length_toList] at hlen
      have o1 := Out.retell (a' := .kmap ents clock ks vs) hr hb ⟨h1, h2, h3, h4, h5⟩
      have hfree := hr.none (Nat.le_refl _)
      have o2 := alloc_own (.mapIter (some m) clock #[] clock) (.walk m ents clock []) (φ' := φ) (fun _ _ => rfl) o1.rel ⟨hr.lim _ (Nat.le_refl _), by rw [heap_new]; rfl⟩
      refine ⟨.pointer (some ⟨w.heap.size, 0, none⟩), _, _, _, _, ?_, .v _, hk ents clock w.heap.size hlen hfree, o1.trans o2⟩
      unfold Instr.range
      simp [Sem.run_bind, run_und hT, getObj, Sem.run, h2, newObj, Result.andThen]
    split at h
    · rename_i es hb
      exact key hb (hr.obj m _ hb) (fun e c r h1 h2 => h e c r (by simpa using h1) h2)
    · rename_i k es hb
      exact key hb (hr.obj m _ hb) (fun e c r h1 h2 => h e c r (by simpa using h1) h2)
    · exact h.elim
  · exact h.elim

theorem nextV_ok {s : Bool} {T : TypeId} {x : AV} {v : Value} (h : nextV H s x K) (hr : Rel X w φ H) (hx : VR (Fz w φ) (Sh w) v x) : AVal X H w φ (Instr.next v s T) K := by
  unfold nextV at h
  split at h
  · rename_i r
    cases hx
    split at h
    · rename_i m ents clock is hrr
      split at h
      · rename_i ents' clock' ks vs hm
        obtain ⟨rfl, rfl, hin, hend, hgo⟩ := h
        obtain ⟨g1, g2⟩ := hr.obj r _ hrr
        obtain ⟨m1, m2, m3, m4, m5⟩ := hr.obj m _ hm
        obtain ⟨s1, s2, s3⟩ := m5
        have hk := m3.len
        have hv := m4.len
        rw [List.length_map, Array.length_toList] at hk hv
        have hborn : ∀ i, i < ents'.size → (ents'.getD i default).born = (ents'.toList.map (·.born))[i]?.getD 0 := fun i hi => by
          simp [Array.getD_eq_getD_getElem?, hi]
        have binj : ∀ i j, i < ents'.size → j < ents'.size → (ents'.getD i default).born = (ents'.getD j default).born → i = j := fun i j hi hj e => by
          refine nodup_inj (a := (ents'.getD i default).born) s2 ?_ ?_
          · simp [Array.getD_eq_getD_getElem?, hi]
          · rw [e]; simp [Array.getD_eq_getD_getElem?, hj]
        rcases run_next_at (P := X.P) w T r m clock' clock' _ ents' clock' g2 m2 s1 (Nat.le_refl _) with ⟨h0, hrun⟩ | ⟨e, he, w1, hw1, hrun⟩
        · refine ⟨_, _, _, _, _, hrun, .tup (.cons (.v _) .nil), hend (fun i hi => ?_), Out.refl hr⟩
          have hmem : ents'[i] ∈ ents'.toList := by simp
          by_cases hsn : (is.map fun i => (ents'.getD i default).born).toArray.contains ents'[i].born = true
          · simp only [List.contains_toArray, List.contains_iff_mem, List.mem_map] at hsn
            obtain ⟨j, hj, hjb⟩ := hsn
            have := binj j i (hin j hj) hi (by rw [hjb]; simp [Array.getD_eq_getD_getElem?, hi])
            rw [← this]; exact hj
          · exfalso
            have : ents'[i] ∈ (leftOf ents' (is.map fun i => (ents'.getD i default).born).toArray).toList := by
              unfold leftOf
              simp only [Array.toList_filter, List.mem_filter]
              exact ⟨hmem, by simpa using hsn⟩
            have hz := Array.eq_empty_of_size_eq_zero h0
            rw [hz] at this
            simp at this
        · unfold leftOf at he
          simp only [Array.toList_filter, List.mem_filter] at he
          obtain ⟨he1, he2⟩ := he
          obtain ⟨i, hi, hie⟩ := List.getElem_of_mem he1
          have hi' : i < ents'.size := by simpa using hi
          have hbi : (ents'.getD i default).born = e.born := by
            rw [← hie]; simp [Array.getD_eq_getD_getElem?, hi']
          have hnot : i ∉ is := fun hmem => by
            have : (is.map fun i => (ents'.getD i default).born).toArray.contains e.born = true := by
              simp only [List.contains_toArray, List.contains_iff_mem, List.mem_map]
              exact ⟨i, hmem, hbi⟩
            rw [this] at he2; cases he2
          have hki : ks[i]? = some ks[i] := List.getElem?_eq_getElem (by omega)
          have hvi : vs[i]? = some vs[i] := List.getElem?_eq_getElem (by omega)
          have hei : ents'.toList[i]? = some e := by rw [List.getElem?_eq_getElem hi, hie]
          have o1 : Out X H w φ H w1 φ := by
            rcases hw1 with rfl | rfl
            · exact Out.refl hr
            · exact drew_out hr
          have g2' : w1.heap[r]? = some (.mapIter (some m) clock' (is.map fun i => (ents'.getD i default).born).toArray clock') := by rcases hw1 with rfl | rfl <;> exact g2
          have hrlt : r < w1.heap.size := (Array.getElem?_eq_some_iff.1 g2').1
          have o2 := nc_out (o' := .mapIter (some m) clock' (((is.map fun i => (ents'.getD i default).born).toArray).push e.born) clock') (a' := .walk m ents' clock' (is ++ [i])) o1.rel hrr g2' rfl (fun _ => ⟨g1, by
            rw [blk_same _ hrlt]; simp only [List.map_append, List.map_cons, List.map_nil, hbi, List.push_toArray]⟩)
          have o3 := o1.trans o2
          refine ⟨_, _, _, _, _, hrun, ?_, hgo i _ _ hnot hki hvi, o3⟩
          refine .tup (.cons (.v _) (.cons ?_ (.cons ?_ .nil)))
          · exact o3.step.vr (m3.get' i _ _ (by rw [List.getElem?_map, hei]; rfl) hki)
          · exact o3.step.vr (m4.get' i _ _ (by rw [List.getElem?_map, hei]; rfl) hvi)
      · exact h.elim
    · exact h.elim
  · rename_i r
    cases hx
    split at h
    · rename_i l pos hrr
      obtain ⟨g1, g2⟩ := hr.obj r _ hrr
      have hrlt : r < w.heap.size := (Array.getElem?_eq_some_iff.1 g2).1
      split at h
      · rename_i hlt
        have o2 := nc_out (o' := .stringIter ⟨⟨l⟩⟩ (pos + (Utf8.decode ⟨⟨l⟩⟩ pos).2)) (a' := .siter l (pos + (Utf8.decode ⟨⟨l⟩⟩ pos).2)) hr hrr g2 rfl (fun _ => ⟨g1, blk_same _ hrlt⟩)
        refine ⟨_, _, _, _, _, ?_, .tup (.cons (.v _) (.cons (.v _) (.cons (.v _) .nil))), h, o2⟩
        have hs : pos < (⟨⟨l⟩⟩ : ByteArray).size := by simpa [ByteArray.size] using hlt
        simp only [Instr.next, getObj, Sem.run_bind, Sem.run, g2, Result.andThen, hs, if_true, setObj]
        simp [Sem.run, hrlt, blk, goInt]
      · rename_i hge
        refine ⟨_, _, _, _, _, ?_, .tup (.cons (.v _) .nil), h, Out.refl hr⟩
        have hs : ¬ pos < (⟨⟨l⟩⟩ : ByteArray).size := by simpa [ByteArray.size] using hge
        simp only [Instr.next, getObj, Sem.run_bind, Sem.run, g2, Result.andThen, hs, if_false]
        rfl
    · exact h.elim
  · exact h.elim

theorem entryV_ok {x : AV} {v : Value} (h : entryV H x K) (hr : Rel X w φ H) (hx : VR (Fz w φ) (Sh w) v x) : AVal X H w φ (Instr.entry v) K := by
  unfold entryV at h
  split at h
  · rename_i r
    cases hx
    split at h
    · rename_i m ents clock is hrr
      split at h
      · rename_i ents' clock' ks vs i hm hlast
        obtain ⟨rfl, rfl, h⟩ := h
        split at h
        · rename_i k x hk hx
          obtain ⟨g1, g2⟩ := hr.obj r _ hrr
          obtain ⟨m1, m2, m3, m4, m5⟩ := hr.obj m _ hm
          obtain ⟨s1, s2, s3⟩ := m5
          have hkl := m3.len
          rw [List.length_map, Array.length_toList] at hkl
          have hi : i < ents'.size := by have := (List.getElem?_eq_some_iff.1 hk).1; omega
          obtain ⟨is', rfl⟩ := List.getLast?_eq_some_iff.1 hlast
          have hei : ents'.toList[i]? = some ents'[i] := by simp [hi]
          have hb : (ents'.getD i default).born = ents'[i].born := by simp [Array.getD_eq_getD_getElem?, hi]
          have hrun := run_entry_at (P := X.P) w r m clock' ((is'.map fun i => (ents'.getD i default).born).toArray) ents' clock' ents'[i] (by rw [g2]; simp only [List.map_append, List.map_cons, List.map_nil, hb, List.push_toArray]) m2 (by simp) s2
          exact ⟨_, _, _, _, _, hrun, .tup (.cons (m3.get' i _ _ (by rw [List.getElem?_map, hei]; rfl) hk) (.cons (m4.get' i _ _ (by rw [List.getElem?_map, hei]; rfl) hx) .nil)), h, Out.refl hr⟩
        · exact h.elim
      · exact h.elim
    · exact h.elim
  · exact h.elim

theorem AOp_ok {ρ : Operand → Value} {ρa : Operand → AV} {o : Oper} (h : AOp X H ρa o.op K) (hρ : ∀ x, VR (Fz w φ) (Sh w) (ρ x) (ρa x)) (hr : Rel X w φ H) : Does X H w φ K ((execOp ρ o).run X.P w) := by
  obtain ⟨dst, op, ty, pos, aft, gd⟩ := o
  have unit : ∀ {s : Sem Unit} {w' : World} {H' : AHeap}, s.run X.P w = .ok () w' → Out X H w φ H' w' φ → K .top H' → Does X H w φ K ((do s; pure Next.skip : Sem Next).run X.P w) := fun h1 h2 h3 => by
    rw [Sem.run_bind, h1]; exact ⟨.top, _, φ, .top _, h3, h2⟩
  cases op <;> simp only [AOp] at h <;> try (exact of_pv h hρ hr)
  case alloc T =>
    split at h
    · rename_i cs hz
      obtain ⟨inf, z, h1, h2, h3, h4⟩ := zC_ok (F := Fz w φ) (S := Sh w) hz
      unfold execOp
      exact of_val (box_ok hr h4 h (by unfold Instr.alloc; simp [h3, newVar, newRow, Sem.run_bind]))
    · exact h.elim
  case box T x =>
    split at h
    · rename_i cs hc
      unfold execOp
      exact of_val (box_ok hr (cells_ok hc (hρ x)) h (by unfold Instr.box; simp [newVar, newRow, Sem.run_bind]))
    · exact h.elim
  case buildSlice T n parts =>
    split at h
    · rename_i e sz by_ hT
      split at h
      · rename_i es hl
        split at h
        · rename_i hn
          unfold execOp
          exact of_val (lit_ok hT hl hn hρ hr h)
        · exact h.elim
      · exact h.elim
    · exact h.elim
  case store T a x =>
    split at h
    · rename_i H' hs
      obtain ⟨w', h1, h2⟩ := storeV_ok hs hr (hρ a) (hρ x)
      unfold execOp
      exact unit h1 h2 h
    · exact h.elim
  case makeMap T r =>
    have mk : ∀ {o : AObj}, OR (w.alloc (.map #[] 0)) φ w.heap.size o → K (.v (.map (some w.heap.size))) (H.put w.heap.size o) → Does X H w φ K ((do pure (Next.value (← Instr.makeMap T none)) : Sem Next).run X.P w) := fun ho hk =>
      of_val ⟨.map (some w.heap.size), w.alloc (.map #[] 0), _, _, φ, by simp [Instr.makeMap, Sem.run_bind], .v _, hk, alloc_own _ _ (updφ w φ) hr ho⟩
    split at h
    · rename_i kt et hT
      split at h
      · unfold execOp
        exact mk (o := .smap []) ⟨hr.lim _ (Nat.le_refl _), #[], 0, heap_new w _, .nil, .nil, MapKept.stamped_empty 0⟩ (h _ (hr.none (Nat.le_refl _)))
      · unfold execOp
        exact mk (o := .imap _ []) ⟨hr.lim _ (Nat.le_refl _), #[], 0, heap_new w _, .nil, .nil, MapKept.stamped_empty 0⟩ (h _ (hr.none (Nat.le_refl _)))
      · exact h.elim
    · exact h.elim
  case makeSlice T l c =>
    split at h
    · rename_i e sz by_ n m hT hl hc
      split at h
      · rename_i z hz
        split at h
        · rename_i hcond
          obtain ⟨h0, rfl, h1, h2⟩ := hcond
          have e1 := hρ l
          have e2 := hρ c
          rw [hl] at e1
          rw [hc] at e2
          generalize hvl : ρ l = vl at e1
          generalize hvc : ρ c = vc at e2
          cases e1
          cases e2
          unfold execOp
          simp only [hvl, hvc]
          exact of_val (make_ok hT hz ⟨h0, h1, h2⟩ hr h)
        · exact h.elim
      · exact h.elim
    · exact h.elim
  case mapUpdate T m k x =>
    split at h
    · rename_i H' hs
      obtain ⟨w', h1, h2⟩ := mapputV_ok hs hr (hρ m) (hρ k) (hρ x)
      unfold execOp
      exact unit h1 h2 h
    · exact h.elim
  case insert T m k x =>
    split at h
    · rename_i H' hs
      obtain ⟨w', h1, h2⟩ := mapputV_ok hs hr (hρ m) (hρ k) (hρ x)
      unfold execOp
      exact unit h1 h2 h
    · exact h.elim
  case call c => exact run_call h hρ hr
  case range T x => unfold execOp; exact of_val (rangeV_ok h hr (hρ x))
  case next it s => unfold execOp; exact of_val (nextV_ok h hr (hρ it))
  case entry it => unfold execOp; exact of_val (entryV_ok h hr (hρ it))

end
end Go.AL
