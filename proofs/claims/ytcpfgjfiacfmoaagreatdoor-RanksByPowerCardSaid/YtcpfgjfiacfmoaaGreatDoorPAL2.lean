/-
  A small logic of abstract values and owned memory over the given model, part 2. No statement of the program.
-/
import Derived.Test.YtcpfgjfiacfmoaaGreatDoorPAL1
import Derived.Orders
import Derived.OpenShut
import Derived.Below
import Derived.ChangeSame
import Derived.Deep.Draws
import Derived.WideShapes
import Derived.Sort.KeysCollected
import Derived.Maps.Own
import Derived.Laws.AppendOwn
/-
  AL, part p: regions, code, calls.
-/
set_option linter.unusedSimpArgs false
set_option linter.unusedVariables false
namespace Go.AL
open Go

def AFr.put (dst : Option Tmp) (a : AV) (fr : AFr) : AFr := match dst with
  | some d => (d, a) :: fr
  | none => fr

def dstOk (N : NR) : Option Tmp → Bool
  | some d => decide (d < N.n)
  | none => true

def guardV (ops : Array Oper) (fr : AFr) (j : Nat) : AV := match ops[j]? with
  | some o => match o.dst with
    | some d => AFr.get d fr
    | none => .top
  | none => .top
def gcond (want : Bool) : AV → Option Bool
  | .v (.bool b) => some (b == want)
  | .whn c (.v (.bool b)) => some (c && (b == want))
  | .v (.tuple _) => some false
  | _ => none
def gset (want yes : Bool) : AV → AV
  | .whn c (.v (.bool b)) => if yes then .v (.bool want) else .whn c (.v (.bool (!want)))
  | .v (.bool _) => if yes then .v (.bool want) else .v (.bool (!want))
  | a => a
def setG (ops : Array Oper) (j : Nat) (want yes : Bool) (fr : AFr) : AFr := match ops[j]? with
  | some o => match o.dst with
    | some d => (d, gset want yes (AFr.get d fr)) :: fr
    | none => fr
  | none => fr

def isPick : Op → Bool
  | .pick .. => true
  | _ => false
def spec : Op → Bool
  | .move _ | .assign _ | .pick .. | .unOp .. | .extract .. | .load .. | .fieldAddr .. | .field .. | .nilCheck _ => true
  | .binOp op .. => match op with
    | .quo | .rem | .shl | .shr => false
    | _ => true
  | .call c => match c.callee with
    | .builtin .len => true
    | .builtin .min => true
    | .builtin .max => true
    | _ => false
  | _ => false

def AV.strip : AV → AV
  | .whn _ a => a
  | a => a
def stripOk (c : Bool) : AV → Prop
  | .whn d _ => c = true → d = true
  | _ => True
def allStrip (c : Bool) (fr : AFr) : List Operand → Prop
  | [] => True
  | x :: l => stripOk c (fr.ev x) ∧ allStrip c fr l

def AFr.evS (fr : AFr) (x : Operand) : AV := (fr.ev x).strip

def pickV (g : Bool) (c : Operand) (a b : Operand) (fr : AFr) (K : AV → Prop) : Prop :=
  match fr.evS c with
  | .v (.bool t) => stripOk g (fr.ev c) ∧ stripOk (g && t) (fr.ev a) ∧ stripOk (g && !t) (fr.ev b) ∧
    match fr.evS a, fr.evS b with
    | .v (.bool x), .v (.bool y) => K (.v (.bool (if t then x else y)))
    | x, y => K (if t then x else y)
  | _ => False

def AOps (X : Ctx) (N : NR) (ops : Array Oper) : List Oper → (AFr → AHeap → Prop) → AFr → AHeap → Prop
  | [], K, fr, H => K fr H
  | o :: rest, K, fr, H => dstOk N o.dst = true ∧ match o.guard with
    | none => match o.op with
      | .pick c a b => pickV true c a b fr fun av => AOps X N ops rest K (AFr.put o.dst av fr) H
      | op => AOp X H fr.ev op fun av H' => AOps X N ops rest K (AFr.put o.dst av fr) H'
    | some (j, want) => match gcond want (guardV ops fr j) with
      | some c => if isPick o.op then
          match o.op with
          | .pick x a b => pickV c x a b fr fun av => AOps X N ops rest K (AFr.put o.dst (.whn c av) fr) H
          | _ => False
        else if spec o.op then
          allStrip c fr o.op.operands.toList ∧ match pv X.P H fr.evS o.op with
          | some av => AOps X N ops rest K (AFr.put o.dst (.whn c av) fr) H
          | none => False
        else (c = true → allStrip c fr o.op.operands.toList ∧ AOp X H fr.evS o.op fun av H' => AOps X N ops rest K (AFr.put o.dst av (setG ops j want true fr)) H') ∧
          (c = false → AOps X N ops rest K (AFr.put o.dst (.v undef) (setG ops j want false fr)) H)
      | none => False

section
variable {X : Ctx} {N : NR} {H : AHeap} {w : World} {φ : Nat → Nat}

theorem FR.put' {a : Act} {fr : AFr} {dst : Option Tmp} (h : FR w φ N a fr) (hd : dstOk N dst = true) {v : Value} {av : AV} (hv : VR (Fz w φ) (Sh w) v av) : FR w φ N (a.put dst v) (AFr.put dst av fr) := by
  cases dst with
  | none => exact h
  | some d => exact h.put (by simpa [dstOk] using hd) hv

theorem FR.out {a : Act} {fr : AFr} {w' : World} {φ' : Nat → Nat} {H' : AHeap} (h : FR w φ N a fr) (ho : Out X H w φ H' w' φ') : FR w' φ' N a fr := h.mono ho.step.fz ho.step.sh

def fen (ro : Option Nat) : Fence := { fn := fun _ => True, depth := none, alive := false, round := ro }
theorem callsIn_fen {ro : Option Nat} {n : Nat} {P : Program} {f : FuncId} {args : Array Value} {w : World} {R : Ending → World → Prop} (h : Calls P f args w R) : CallsIn (fen ro) n P f args w R := callsIn_wide.2 h

def Post (X : Ctx) (N : NR) (H : AHeap) (w : World) (φ : Nat → Nat) (Q : Exit → AFr → AHeap → Prop) : Exit → Act → World → Prop :=
  fun e a w' => ∃ fr H' φ', Q e fr H' ∧ FR w' φ' N a fr ∧ Dfr w H' w' a.defers ∧ Out X H w φ H' w' φ'

theorem defers_put (a : Act) (d : Option Tmp) (v : Value) : (a.put d v).defers = a.defers := by cases d <;> rfl

theorem upon_ok {o : Oper} {a : Act} {fr : AFr} {K : AV → AHeap → Prop} {next : Act → World → Prop} {Q : Exit → Act → World → Prop} {r : Result Next} (hd : Does X H w φ K r)
    (hn : ∀ v w' av H' φ', VR (Fz w' φ') (Sh w') v av → K av H' → Out X H w φ H' w' φ' → next (a.put o.dst v) w') : o.uponIn (fen N.ro) 0 X.P a next Q r := by
  unfold Does at hd
  split at hd
  · obtain ⟨av, H', φ', h1, h2, h3⟩ := hd; exact hn _ _ _ _ _ h1 h2 h3
  · obtain ⟨av, H', φ', h1, h2, h3⟩ := hd; exact hn _ _ _ _ _ h1 h2 h3
  · obtain ⟨rfl, hc⟩ := hd
    exact ⟨(fun h => by cases h), callsIn_fen (hc.mono fun e w' ⟨v, av, H', φ', he, h1, h2, h3⟩ => by subst he; exact hn _ _ _ _ _ h1 h2 h3)⟩
  · obtain ⟨rfl, hc⟩ := hd
    exact ⟨(fun h => by cases h), hc.mono fun e w' ⟨v, av, H', φ', he, h1, h2, h3⟩ => by subst he; exact hn _ _ _ _ _ h1 h2 h3⟩
  · exact hd.elim

theorem ow_of {ro : Option Nat} {o : Oper} {a : Act} {P : Program} {next : Act → World → Prop} {Q : Exit → Act → World → Prop} (hnd : ∀ c, o.op ≠ .defer c)
    (h : o.uponIn (fen ro) 0 P a next Q ((execOp a.eval o).run P w)) : o.wpIn (fen ro) 0 P a w next Q :=
  ⟨fun _ _ => trivial, by rw [Oper.semAt_eq _ _ _ hnd]; exact h⟩
theorem AOp_nd {ρ : Operand → AV} {op : Op} {K : AV → AHeap → Prop} (h : AOp X H ρ op K) : ∀ c, op ≠ .defer c := by
  rintro c rfl
  simp [AOp, pv] at h
theorem pv_nd {P : Program} {ρ : Operand → AV} {op : Op} {av : AV} (h : pv P H ρ op = some av) : ∀ c, op ≠ .defer c := by
  rintro c rfl
  simp [pv] at h

theorem yielded_eq {ops : Array Oper} {a : Act} {fr : AFr} (h : FR w φ N a fr) {j : Nat} {want c : Bool} (hg : gcond want (guardV ops fr j) = some c) : (yielded ops a.tmps j == some want) = c := by
  have key : ∀ d, (a.tmps[d]?).getD undef = a.tmps.getD d undef := fun d => by rw [Array.getD_eq_getD_getElem?]
  unfold guardV at hg
  unfold yielded
  cases ho : ops[j]? with
  | none => rw [ho] at hg; cases hg
  | some o =>
    rw [ho] at hg
    simp only at hg
    cases hd : o.dst with
    | none => rw [hd] at hg; cases hg
    | some d =>
      rw [hd] at hg
      simp only at hg
      have h1 := h.at_ d
      rw [← key] at h1
      simp only [Option.bind_some, hd]
      generalize hx : (a.tmps[d]?).getD undef = x at h1
      have hval : ∀ y, a.tmps[d]? = some y → y = x := fun y hy => by rw [hy] at hx; simpa using hx
      generalize hgv : AFr.get d fr = g at hg h1
      unfold gcond at hg
      split at hg
      · rename_i b
        cases hg
        cases h1
        cases hy : a.tmps[d]? with
        | none => rw [hy] at hx; cases hx
        | some y => have := hval y hy; subst this; cases b <;> cases want <;> rfl
      · rename_i c0 b
        cases hg
        cases h1
        · rename_i h1
          cases h1
          cases hy : a.tmps[d]? with
          | none => rw [hy] at hx; cases hx
          | some y => have := hval y hy; subst this; cases b <;> cases want <;> rfl
        · cases hy : a.tmps[d]? with
          | none => rfl
          | some y => have := hval y hy; subst this; rfl
      · cases hg
        cases h1
        cases hy : a.tmps[d]? with
        | none => rfl
        | some y => have := hval y hy; subst this; rfl
      · cases hg

theorem setG_ok {ops : Array Oper} {a : Act} {fr : AFr} (h : FR w φ N a fr) {j : Nat} {want c : Bool} (hg : gcond want (guardV ops fr j) = some c) : FR w φ N a (setG ops j want c fr) := by
  unfold guardV at hg
  unfold setG
  cases ho : ops[j]? with
  | none => rw [ho] at hg; cases hg
  | some o =>
    rw [ho] at hg
    simp only at hg ⊢
    cases hd : o.dst with
    | none => rw [hd] at hg; cases hg
    | some d =>
      rw [hd] at hg
      simp only at hg ⊢
      refine ⟨h.size, fun t => ?_⟩
      simp only [AFr.get]
      split
      · rename_i e; subst e
        have h1 := h.at_ d
        generalize hgv : AFr.get d fr = g at hg h1 ⊢
        generalize hx : a.tmps.getD d undef = x at h1 ⊢
        unfold gcond at hg
        split at hg
        · rename_i b
          cases hg
          cases h1
          cases b <;> cases want <;> exact .v _
        · rename_i c0 b
          cases hg
          cases h1
          · rename_i h1
            cases h1
            cases b <;> cases want <;> first | exact .v _ | exact .whnT (.v _)
          · cases b <;> cases want <;> exact .whnF _
        · cases hg
          exact h1
        · cases hg
      · exact h.at_ t

theorem strip_ok {F : Addr → Value → Prop} {S : Nat → Nat → Prop} {x : Value} {a : AV} {c : Bool} (h : VR F S x a) (hs : stripOk c a) (hc : c = true) : VR F S x a.strip := by
  cases h <;> first
    | (simp only [AV.strip]; first | exact .v _ | exact .s _ | exact .agg ‹_› | exact .tup ‹_› | exact .slnil _ | exact .sl ‹_› ‹_› ‹_› | exact .fp ‹_› | exact .row ‹_› ‹_› ‹_› | exact .rp | exact .vw ‹_› ‹_› ‹_› ‹_› | exact .fn ‹_› ‹_› | exact .ifc ‹_› | exact .top _ | assumption)
    | (simp only [stripOk] at hs; exact absurd (hs hc) (by simp))

theorem allStrip_mem {c : Bool} {fr : AFr} : ∀ {l : List Operand}, allStrip c fr l → ∀ x ∈ l, stripOk c (fr.ev x)
  | [], _, x, h => by cases h
  | y :: l, h, x, hx => by
    rcases List.mem_cons.1 hx with rfl | hx
    · exact h.1
    · exact allStrip_mem h.2 x hx

section congr
variable {P : Program} {ρ ρ' : Operand → AV} {K : AV → AHeap → Prop}
theorem pv_congr {o : Op} (h : ∀ x ∈ o.operands.toList, ρ x = ρ' x) : pv P H ρ o = pv P H ρ' o := by
  have mp : ∀ (p : Op) (l : List Operand), (∀ x ∈ l, x ∈ p.operands.toList) → (∀ x ∈ p.operands.toList, ρ x = ρ' x) → l.map ρ = l.map ρ' := fun p l hl hp => List.map_congr_left fun x hx => hp x (hl x hx)
  have om : ∀ (p : Op) (l : Option Operand), (∀ x, l = some x → x ∈ p.operands.toList) → (∀ x ∈ p.operands.toList, ρ x = ρ' x) → l.map ρ = l.map ρ' := fun p l hl hp => by
    cases l with
    | none => rfl
    | some x => simp only [Option.map_some]; rw [hp x (hl x rfl)]
  cases o <;> simp only [pv]
  case move x => rw [h x (by simp [Op.operands])]
  case assign x => rw [h x (by simp [Op.operands])]
  case pick c a b => rw [h c (by simp [Op.operands]), h a (by simp [Op.operands]), h b (by simp [Op.operands])]
  case load T a => rw [h a (by simp [Op.operands])]
  case nilCheck x => rw [h x (by simp [Op.operands])]
  case binOp op T x y yt => rw [h x (by simp [Op.operands]), h y (by simp [Op.operands])]
  case unOp op T x => rw [h x (by simp [Op.operands])]
  case convert s d x => rw [h x (by simp [Op.operands])]
  case makeFunc f a c => rw [mp _ a.toList (by simp +contextual [Op.operands]) h, mp _ c.toList (by simp +contextual [Op.operands]) h]
  case slice T x l hh m =>
    rw [h x (by simp [Op.operands]), om _ l (by rintro y rfl; simp [Op.operands]) h, om _ hh (by rintro y rfl; simp [Op.operands]) h, om _ m (by rintro y rfl; simp [Op.operands]) h]
  case fieldAddr T x i => rw [h x (by simp [Op.operands])]
  case field T x i => rw [h x (by simp [Op.operands])]
  case indexAddr T x i => rw [h x (by simp [Op.operands]), h i (by simp [Op.operands])]
  case index T x i => rw [h x (by simp [Op.operands]), h i (by simp [Op.operands])]
  case lookup T x i ok => rw [h x (by simp [Op.operands]), h i (by simp [Op.operands])]
  case extract t i => rw [h t (by simp [Op.operands])]
  case build T parts =>
    have : (parts.toList.map fun p => (p.1, ρ p.2)) = parts.toList.map fun p => (p.1, ρ' p.2) := List.map_congr_left fun p hp => by
      rw [h p.2 (by simp only [Op.operands, List.mem_map]; exact ⟨p, hp, rfl⟩)]
    rw [this]
  case call c =>
    rw [mp _ c.args.toList (fun x hx => by
      simp only [Op.operands, Call.operands, Array.toList_append, List.mem_append]; exact .inr hx) h]

theorem AOp_congr {o : Op} (h : ∀ x ∈ o.operands.toList, ρ x = ρ' x) : AOp X H ρ o K = AOp X H ρ' o K := by
  have mp : ∀ (p : Op) (l : List Operand), (∀ x ∈ l, x ∈ p.operands.toList) → (∀ x ∈ p.operands.toList, ρ x = ρ' x) → l.map ρ = l.map ρ' := fun p l hl hp => List.map_congr_left fun x hx => hp x (hl x hx)
  have hpv := pv_congr (P := X.P) (H := H) h
  cases o <;> simp only [AOp] <;> try (rw [hpv]; done)
  case box T x => rw [h x (by simp [Op.operands])]
  case buildSlice T n parts =>
    have : (parts.toList.map fun p => (p.1, ρ p.2)) = parts.toList.map fun p => (p.1, ρ' p.2) := List.map_congr_left fun p hp => by
      rw [h p.2 (by simp only [Op.operands, List.mem_map]; exact ⟨p, hp, rfl⟩)]
    rw [this]
  case store T a x => rw [h a (by simp [Op.operands]), h x (by simp [Op.operands])]
  case makeSlice T l c => rw [h l (by simp [Op.operands]), h c (by simp [Op.operands])]
  case mapUpdate T m k x => rw [h m (by simp [Op.operands]), h k (by simp [Op.operands]), h x (by simp [Op.operands])]
  case insert T m k x => rw [h m (by simp [Op.operands]), h k (by simp [Op.operands]), h x (by simp [Op.operands])]
  case call c =>
    have ha := mp _ c.args.toList (fun x hx => by
      simp only [Op.operands, Call.operands, Array.toList_append, List.mem_append]; exact .inr hx) h
    obtain ⟨callee, args, ats⟩ := c
    cases callee with
    | value f =>
      have hf := h f (by simp [Op.operands, Call.operands])
      simp only [callV, hf]
      simp only at ha
      rw [ha]
    | invoke r m => rfl
    | builtin b =>
      simp only at ha
      cases b <;> simp only [callV, ha]
      case append =>
        split
        · rename_i s x T xT e1 e2
          rw [h s (by simp [Op.operands, Call.operands, e1]), h x (by simp [Op.operands, Call.operands, e1])]
        · rfl
  case range T x => rw [h x (by simp [Op.operands])]
  case next it s => rw [h it (by simp [Op.operands])]
  case entry it => rw [h it (by simp [Op.operands])]
end congr

noncomputable def evO (fr : AFr) (l : List Operand) (x : Operand) : AV := by classical exact if x ∈ l then fr.evS x else .top

theorem evO_ok {a : Act} {fr : AFr} {l : List Operand} {c : Bool} (h : FR w φ N a fr) (hs : allStrip c fr l) (hc : c = true) (x : Operand) : VR (Fz w φ) (Sh w) (a.eval x) (evO fr l x) := by
  unfold evO
  split
  · rename_i hx
    exact strip_ok (h.ev x) (allStrip_mem hs x hx) hc
  · exact .top _

theorem evO_mem {fr : AFr} {l : List Operand} {x : Operand} (h : x ∈ l) : fr.evS x = evO fr l x := by
  unfold evO; rw [if_pos h]

theorem pick_ok {a : Act} {fr : AFr} {g : Bool} {c x y : Operand} {K : AV → Prop} {ty : TypeId} {pos : String} {dst : Option Tmp} {aft : Array Edge} {gd : Option (Nat × Bool)} (h : pickV g c x y fr K) (hg : g = true) (hf : FR w φ N a fr) :
    ∃ v av, (execOp a.eval { dst, op := .pick c x y, type := ty, pos, after := aft, guard := gd }).run X.P w = .ok (.value v) w ∧ VR (Fz w φ) (Sh w) v av ∧ K av := by
  subst hg
  unfold pickV at h
  split at h
  · rename_i t hc
    obtain ⟨h0, h1, h2, h3⟩ := h
    have e := strip_ok (hf.ev c) h0 rfl
    unfold AFr.evS at hc
    rw [hc] at e
    generalize hx : a.eval c = cv at e
    cases e
    have hrun : (execOp a.eval { dst, op := .pick c x y, type := ty, pos, after := aft, guard := gd }).run X.P w = .ok (.value (if t then a.eval x else a.eval y)) w := by
      unfold execOp
      simp only [hx, asBool, Sem.run_bind, Sem.run_pure, Result.andThen_ok]
    have hv : VR (Fz w φ) (Sh w) (if t then a.eval x else a.eval y) (if t then fr.evS x else fr.evS y) := by
      cases t
      · exact strip_ok (hf.ev y) h2 rfl
      · exact strip_ok (hf.ev x) h1 rfl
    split at h3
    · rename_i p q e1 e2
      rw [e1, e2] at hv
      exact ⟨_, _, hrun, by cases t <;> exact hv, h3⟩
    · exact ⟨_, _, hrun, hv, h3⟩
  · exact h.elim

theorem pickV_K {fr : AFr} {g : Bool} {c x y : Operand} {K : AV → Prop} (h : pickV g c x y fr K) : ∃ av, K av := by
  unfold pickV at h
  split at h
  · obtain ⟨h0, h1, h2, h3⟩ := h
    split at h3 <;> exact ⟨_, h3⟩
  · exact h.elim

def AWp (X : Ctx) (N : NR) (c : Code) (Q : Exit → AFr → AHeap → Prop) (fr : AFr) (H : AHeap) : Prop :=
  ∀ a w φ H0 w0 φ0, FR w φ N a fr → Dfr w0 H w a.defers → Rel X w φ H → Out X H0 w0 φ0 H w φ → c.wpIn (fen N.ro) 0 X.P (Post X N H0 w0 φ0 Q) a w

variable {Q : Exit → AFr → AHeap → Prop} {fr : AFr}

theorem AWp.mono {c : Code} {Q' : Exit → AFr → AHeap → Prop} (h : AWp X N c Q fr H) (hq : ∀ e fr H, Q e fr H → Q' e fr H) : AWp X N c Q' fr H :=
  fun a w φ H0 w0 φ0 hf hd hr ho => wpIn_mono (h a w φ H0 w0 φ0 hf hd hr ho) fun _ _ _ ⟨fr, H', φ', h1, h2⟩ => ⟨fr, H', φ', hq _ _ _ h1, h2⟩

theorem AWp_skip (h : Q .normal fr H) : AWp X N .skip Q fr H := fun a w φ H0 w0 φ0 hf hd hr ho => wpIn_skip ⟨fr, H, φ, h, hf, hd, ho⟩
theorem AWp_exit {id : Nat} (h : Q (.exit id) fr H) : AWp X N (.exit id) Q fr H := fun a w φ H0 w0 φ0 hf hd hr ho => wpIn_exit ⟨fr, H, φ, h, hf, hd, ho⟩
theorem AWp_ret (h : Q .ret fr H) : AWp X N .ret Q fr H := fun a w φ H0 w0 φ0 hf hd hr ho => wpIn_ret ⟨fr, H, φ, h, hf, hd, ho⟩

def AThen (next : AFr → AHeap → Prop) (Q : Exit → AFr → AHeap → Prop) : Exit → AFr → AHeap → Prop
  | .normal, fr, H => next fr H
  | e, fr, H => Q e fr H

theorem AWp_seq {x y : Code} (h : AWp X N x (AThen (fun fr H => AWp X N y Q fr H) Q) fr H) : AWp X N (.seq x y) Q fr H :=
  fun a w φ H0 w0 φ0 hf hd hr ho => wpIn_seq (wpIn_mono (h a w φ H0 w0 φ0 hf hd hr ho) fun e a' w' ⟨fr', H', φ', h1, h2, h3, h4⟩ => by
    cases e <;> first
    | exact h1 a' w' φ' H0 w0 φ0 h2 h3 h4.rel h4
    | exact ⟨fr', H', φ', h1, h2, h3, h4⟩)

theorem AWp_seq_k {x y : Code} (h : ∀ K : AFr → AHeap → Prop, (∀ fr H, AWp X N y Q fr H → K fr H) → AWp X N x (AThen K Q) fr H) : AWp X N (.seq x y) Q fr H := AWp_seq (h _ fun _ _ h => h)

theorem AWp_cond {c : Operand} {x y : Code} {t : Bool} (hc : fr.ev c = .v (.bool t)) (ht : t = true → AWp X N x Q fr H) (hf' : t = false → AWp X N y Q fr H) : AWp X N (.cond c x y) Q fr H :=
  fun a w φ H0 w0 φ0 hf hd hr ho => by
    have h1 := hf.ev c
    rw [hc] at h1
    have h2 : a.eval c = .bool t := by generalize hx : a.eval c = x at h1; cases h1; rfl
    exact wpIn_cond_split h2 (fun e => ht e a w φ H0 w0 φ0 hf hd hr ho) (fun e => hf' e a w φ H0 w0 φ0 hf hd hr ho)

def ABlock (id : Nat) (Q : Exit → AFr → AHeap → Prop) : Exit → AFr → AHeap → Prop
  | .exit id', fr, H => if id' = id then Q .normal fr H else Q (.exit id') fr H
  | e, fr, H => Q e fr H

theorem AWp_block {id : Nat} {c : Code} (h : AWp X N c (ABlock id Q) fr H) : AWp X N (.block id c) Q fr H :=
  fun a w φ H0 w0 φ0 hf hd hr ho => wpIn_block (wpIn_mono (h a w φ H0 w0 φ0 hf hd hr ho) fun e a' w' ⟨fr', H', φ', h1, h2, h3, h4⟩ => by
    cases e with
    | exit id' =>
      simp only [ABlock] at h1
      simp only [Exit.inBlock]
      split
      · rename_i e; rw [if_pos e] at h1; exact ⟨fr', H', φ', h1, h2, h3, h4⟩
      · rename_i e; rw [if_neg e] at h1; exact ⟨fr', H', φ', h1, h2, h3, h4⟩
    | _ => exact ⟨fr', H', φ', h1, h2, h3, h4⟩)

theorem AWp_loop {c : Code} (I : Nat → AFr → AHeap → Prop) {n : Nat} (h0 : I n fr H)
    (round : ∀ n fr H, I n fr H → AWp X N c (AThen (fun fr' H' => ∃ m, m < n ∧ I m fr' H') Q) fr H) : AWp X N (.loop c) Q fr H :=
  fun a w φ H0 w0 φ0 hf hd hr ho b k cs hro hb hrm => by
    have key : ∀ n fr H a w φ, I n fr H → FR w φ N a fr → Dfr w0 H w a.defers → Out X H0 w0 φ0 H w φ →
        ∃ e a' w', Post X N H0 w0 φ0 Q e a' w' ∧ ArrivesIn (Machine.fenced X.P (fen N.ro)) X.P (lone (b.atR a (.code c :: .inLoop c :: k)) cs w) b k cs e a' w' := by
      intro n
      induction n using Nat.strongRecOn with
      | _ n ih =>
        intro fr H a w φ hI hf hd ho
        obtain ⟨e, a₁, w₁, ⟨fr1, H1, φ1, hq, hf1, hd1, ho1⟩, harr⟩ := round n fr H hI a w φ H0 w0 φ0 hf hd ho.rel ho b (.inLoop c :: k) cs hro hb hrm
        cases e with
        | normal =>
          obtain ⟨m, hm, hI1⟩ := hq
          obtain ⟨e₂, a₂, w₂, hq₂, harr₂⟩ := ih m hm fr1 H1 a₁ w₁ φ1 hI1 hf1 hd1 ho1
          exact ⟨e₂, a₂, w₂, hq₂, .of_steps (StepsIn.trans harr (.one (fenced_calm hb hrm rfl) stepR_inLoop)) harr₂⟩
        | exit id => exact ⟨_, a₁, w₁, ⟨fr1, H1, φ1, hq, hf1, hd1, ho1⟩, .pass (x := .inLoop c) rfl (fun _ _ => .inl (by simp)) harr⟩
        | goto l => exact ⟨_, a₁, w₁, ⟨fr1, H1, φ1, hq, hf1, hd1, ho1⟩, .pass (x := .inLoop c) rfl (fun _ _ => .inl (by simp)) harr⟩
        | ret => exact ⟨_, a₁, w₁, ⟨fr1, H1, φ1, hq, hf1, hd1, ho1⟩, .pass (x := .inLoop c) rfl (fun _ _ => .inl (by simp)) harr⟩
        | panic ch => exact ⟨_, a₁, w₁, ⟨fr1, H1, φ1, hq, hf1, hd1, ho1⟩, .pass (x := .inLoop c) rfl (fun _ _ => .inl (by simp)) harr⟩
        | outgrown => exact ⟨_, a₁, w₁, ⟨fr1, H1, φ1, hq, hf1, hd1, ho1⟩, .pass (x := .inLoop c) rfl (fun _ _ => .inl (by simp)) harr⟩
    obtain ⟨e, a', w', hq, harr⟩ := key n fr H a w φ h0 hf hd ho
    exact ⟨e, a', w', hq, .of_steps (.one (fenced_calm hb hrm rfl) stepR_loop) harr⟩

theorem AWp_weaken {c : Code} {fr' : AFr} {H' : AHeap} (h : AWp X N c Q fr' H') (hf : ∀ F S (x : Nat → Value), (∀ t, VR F S (x t) (AFr.get t fr)) → ∀ t, VR F S (x t) (AFr.get t fr')) (hH : ∀ b o, H'.get b = some o → H.get b = some o) : AWp X N c Q fr H :=
  fun a w φ H0 w0 φ0 hfr hd hr ho => h a w φ H0 w0 φ0 ⟨hfr.size, hf _ _ _ hfr.at_⟩ (hd.forget hH) (ho.forget hH).rel (ho.forget hH)

def keep (l : List Nat) (fr : AFr) : AFr := l.map fun t => (t, AFr.get t fr)

def resV (P : Program) (H : AHeap) (fr : AFr) : ResultVar → Option AV
  | .tmp t => some (AFr.get t fr)
  | .cell a T => ((AFr.get a fr).cellsAt H).bind (ldAt P T)
def resVs (P : Program) (H : AHeap) (fr : AFr) : List ResultVar → Option (List AV)
  | [] => some []
  | r :: rs => match resV P H fr r, resVs P H fr rs with
    | some a, some as => some (a :: as)
    | _, _ => none
def resAV (P : Program) (H : AHeap) (fr : AFr) (rs : List ResultVar) : Option AV := match resVs P H fr rs with
  | some [a] => some a
  | some as => some (.tup as)
  | none => none

def rv (tmps : Array Value) : ResultVar → Sem Value
  | .tmp t => pure (tmps.getD t undef)
  | .cell p T => do loadVar T (← asAddr (tmps.getD p undef))
theorem results_eq (fn : Func) (tmps : Array Value) : results fn tmps = (do let vs ← fn.results.mapM (rv tmps); pure (if h : vs.size = 1 then vs[0] else .tuple vs)) := by
  unfold results
  have : (fun x => match x with
    | .tmp t => pure (tmps.getD t undef)
    | .cell a t => do loadVar t (← asAddr (tmps.getD a undef)) : ResultVar → Sem Value) = rv tmps := by
    funext x; cases x <;> rfl
  rw [← this]
  rfl

theorem resV_ok {a : Act} {r : ResultVar} {av : AV} (h : resV X.P H fr r = some av) (hf : FR w φ N a fr) (hr : Rel X w φ H) :
    ∃ v, (rv a.tmps r).run X.P w = .ok v w ∧ VR (Fz w φ) (Sh w) v av := by
  cases r with
  | tmp t => cases h; exact ⟨_, rfl, hf.at_ t⟩
  | cell p T =>
    simp only [resV, Option.bind_eq_some_iff] at h
    obtain ⟨cs, h1, h2⟩ := h
    obtain ⟨ad, e, hc⟩ := cellsAt_ok h1 hr (hf.at_ p)
    obtain ⟨v, h3, h4⟩ := load_ok (P := X.P) h2 hc
    exact ⟨v, by simp only [rv, e, asAddr, Sem.run_bind, Sem.run_pure, Result.andThen_ok]; exact h3, h4⟩

theorem resVs_ok {a : Act} (hf : FR w φ N a fr) (hr : Rel X w φ H) : ∀ {rs : List ResultVar} {as : List AV}, resVs X.P H fr rs = some as →
    ∃ vs, (rs.mapM (rv a.tmps)).run X.P w = .ok vs w ∧ VRs (Fz w φ) (Sh w) vs as
  | [], as, h => by cases h; exact ⟨[], rfl, .nil⟩
  | r :: rs, as, h => by
    simp only [resVs] at h
    split at h
    · rename_i av as' h1 h2
      cases h
      obtain ⟨v, g1, g2⟩ := resV_ok h1 hf hr
      obtain ⟨vs, g3, g4⟩ := resVs_ok hf hr h2
      refine ⟨v :: vs, ?_, .cons g2 g4⟩
      rw [List.mapM_cons, Sem.run_bind, g1]
      simp only [Result.andThen_ok, Sem.run_bind, g3, Sem.run_pure]
    · cases h

theorem results_ok {fn : Func} {a : Act} {av : AV} (h : resAV X.P H fr fn.results.toList = some av) (hf : FR w φ N a fr) (hr : Rel X w φ H) :
    ∃ v, (results fn a.tmps).run X.P w = .ok v w ∧ VR (Fz w φ) (Sh w) v av := by
  unfold resAV at h
  have run : ∀ {as : List AV}, resVs X.P H fr fn.results.toList = some as → ∃ vs, VRs (Fz w φ) (Sh w) vs as ∧ (results fn a.tmps).run X.P w = .ok (if h : (⟨vs⟩ : Array Value).size = 1 then (⟨vs⟩ : Array Value)[0] else .tuple ⟨vs⟩) w := fun hh => by
    obtain ⟨vs, h1, h2⟩ := resVs_ok hf hr hh
    refine ⟨vs, h2, ?_⟩
    rw [results_eq]
    have e : fn.results = fn.results.toList.toArray := by simp
    rw [e, List.mapM_toArray, Sem.run_bind, Sem.run_map, h1]
    rfl
  split at h
  · rename_i b hh
    cases h
    obtain ⟨vs, h1, h2⟩ := run hh
    cases h1 with
    | cons h1 hs => cases hs; exact ⟨_, h2, h1⟩
  · rename_i as hne hh
    cases h
    obtain ⟨vs, h1, h2⟩ := run hh
    have hl := h1.len
    refine ⟨_, h2, ?_⟩
    rw [dif_neg]
    · exact .tup h1
    · intro h3
      have h3' : vs.length = 1 := h3
      match as, hl.symm.trans h3' with
      | [x], _ => exact hne x rfl
  · cases h

def AEnd (P : Program) (rs : List ResultVar) (K : AV → AHeap → Prop) : Exit → AFr → AHeap → Prop
  | .normal, fr, H => match resAV P H fr rs with
    | some av => K av H
    | none => False
  | .ret, fr, H => match resAV P H fr rs with
    | some av => K av H
    | none => False
  | _, _, _ => False

def frame0 : Nat → List AV → AFr
  | _, [] => []
  | k, a :: as => (k, a) :: frame0 (k + 1) as

theorem frame0_ok {F : Addr → Value → Prop} {S : Nat → Nat → Prop} : ∀ {xs : List Value} {as : List AV} (k : Nat) (f : Nat → Value), VRs F S xs as → (∀ i x, xs[i]? = some x → f (k + i) = x) → ∀ t, VR F S (f t) (AFr.get t (frame0 k as))
  | [], [], k, f, _, _, t => .top _
  | x :: xs, a :: as, k, f, .cons h hs, hf, t => by
    simp only [frame0, AFr.get]
    split
    · rename_i e; subst e
      have := hf 0 x rfl
      rw [Nat.add_zero] at this
      rw [this]; exact h
    · exact frame0_ok (k + 1) f hs (fun i y hy => by rw [show k + 1 + i = k + (i + 1) from by omega]; exact hf (i + 1) y (by simpa using hy)) t

theorem un_out {H0 : AHeap} {w0 : World} {φ0 : Nat → Nat} {D : Nat} {x : Option (List Deferred)} {o' : Obj} (ho : Out X H0 w0 φ0 H w φ) (hge : w0.heap.size ≤ D) (hn : H.get D = none) (h : w.heap[D]? = some (.deferred x)) :
    Out X H0 w0 φ0 H (blk w D o') φ ∧ (∀ ad u, Fz w φ ad u → Fz (blk w D o') φ ad u) ∧ (∀ b n, Sh w b n → Sh (blk w D o') b n) := by
  have hF : ∀ ad u, Fz w φ ad u → Fz (blk w D o') φ ad u := fun ad u hu => by
    obtain ⟨h1, h2⟩ := hu
    have e : ad.block ≠ D := fun e => by
      unfold World.cell? at h1
      rw [e, h] at h1
      cases h1
    exact ⟨by rw [World.cell?_of_block (w := w) (blk_other _ e)]; exact h1, h2⟩
  have hS : ∀ b n, Sh w b n → Sh (blk w D o') b n := fun d n hd => by
    obtain ⟨arr, T, fr, h1, h2⟩ := hd
    have e : d ≠ D := fun e => by rw [e, h] at h1; cases h1
    exact ⟨arr, T, fr, by rw [blk_other _ e]; exact h1, h2⟩
  refine ⟨⟨⟨ho.step.os, ho.step.tape, ho.step.output, by rw [blk_size]; exact ho.step.size, fun ad u hu => hF _ _ (ho.step.fz ad u hu), fun b n hb => hS _ _ (ho.step.sh b n hb), fun b hb hbn => ?_⟩, ⟨fun d o hd => ?_, fun d hd => ?_, X.mono _ _ hF ho.rel.env⟩, ho.dom, ho.drawn⟩, hF, hS⟩
  · rw [blk_other _ (by omega)]; exact ho.step.un b hb hbn
  · have e : d ≠ D := fun e => by rw [e, hn] at hd; cases hd
    exact (ho.rel.obj d o hd).keep (blk_other _ e) rfl hF hS
  · rw [blk_size] at hd; exact ho.rel.lim d hd

theorem leaves_marks {fn : Func} {tmps : Array Value} {dd : List Deferred} {fr : AFr} {H0 : AHeap} {w0 : World} {φ0 : Nat → Nat} {av : AV} {K : AV → AHeap → Prop} (hav : resAV X.P H fr fn.results.toList = some av) (hK : K av H) :
    ∀ (Ds : List Nat) (w : World), Ds.Nodup → (∀ D ∈ Ds, w0.heap.size ≤ D ∧ w.heap[D]? = some (.deferred (some [])) ∧ H.get D = none) → FR w φ N ⟨tmps, dd⟩ fr → Out X H0 w0 φ0 H w φ →
    LeavesInM (fen none) 0 X.P fn tmps (fun e w' => ∃ v av H' φ', e = .returned v ∧ VR (Fz w' φ') (Sh w') v av ∧ K av H' ∧ Out X H0 w0 φ0 H' w' φ') (Ds.map (fun D => { target := .collected D, args := #[] })) .returning w
  | [], w, _, _, hf, ho => by
    obtain ⟨v, g1, g2⟩ := results_ok hav hf ho.rel
    exact ⟨v, g1, v, av, H, φ, rfl, g2, hK, ho⟩
  | D :: Ds, w, hnd, hD, hf, ho => by
    rw [List.nodup_cons] at hnd
    obtain ⟨g1, g2, g3⟩ := hD D (by simp)
    obtain ⟨k1, k2, k3⟩ := un_out (o' := .deferred none) ho g1 g3 g2
    refine ⟨by simp, .inl ⟨D, blk w D (.deferred none), rfl, ?_, leaves_marks hav hK Ds _ hnd.2 (fun E hE => ?_) (hf.mono k2 k3) k1⟩⟩
    · unfold Instr.takeDeferred
      simp [Sem.run_bind, getObj, setObj, Sem.run, g2, blk, Result.andThen]
    · obtain ⟨e1, e2, e3⟩ := hD E (by simp [hE])
      have : E ≠ D := fun e => hnd.1 (e ▸ hE)
      exact ⟨e1, by rw [blk_other _ this]; exact e2, e3⟩

theorem ACall_intro {f : FuncId} {fn : Func} {c : Code} {args : List AV} {K : AV → AHeap → Prop} (hfn : X.P.funcs[f]? = some fn) (hb : fn.body = some c) (hc : canEnter X.P f = true) (hN : args.length ≤ fn.ntmps)
    (h : AWp X ⟨fn.ntmps, none⟩ c (AEnd X.P fn.results.toList K) (frame0 0 args) H) : ACall X f args H K := by
  refine ⟨hc, fun w φ xs hr hx => (callsIn_wide (n := 0)).1 (callsIn_of_wp_marks (F := fen none) (n := 0) hfn hb trivial ?_ rfl)⟩
  have hl := hx.len
  have hsz : ((⟨xs⟩ : Array Value) ++ Array.replicate (fn.ntmps - (⟨xs⟩ : Array Value).size) undef).size = fn.ntmps := by
    simp; omega
  have hfr : FR w φ ⟨fn.ntmps, none⟩ { tmps := (⟨xs⟩ : Array Value) ++ Array.replicate (fn.ntmps - (⟨xs⟩ : Array Value).size) undef, defers := [] } (frame0 0 args) :=
    ⟨hsz, frame0_ok 0 _ hx (fun i x hi => by
      rw [Nat.zero_add]
      have hil := (List.getElem?_eq_some_iff.1 hi).1
      simp only
      rw [Array.getD_eq_getD_getElem?, Array.getElem?_append_left (by simpa using hil)]
      rw [show (⟨xs⟩ : Array Value)[i]? = some x from by simpa using hi]
      rfl)⟩
  refine wpIn_mono (h _ w φ H w φ hfr Dfr.nil hr (Out.refl hr)) fun e a w' ⟨fr, H', φ', h1, h2, h3, h4⟩ => ?_
  have fin : (match resAV X.P H' fr fn.results.toList with | some av => K av H' | none => False) → LeavesInM (fen none) 0 X.P fn a.tmps (fun e w' => ∃ v av H' φ', e = .returned v ∧ VR (Fz w' φ') (Sh w') v av ∧ K av H' ∧ Out X H w φ H' w' φ') a.defers .returning w' := fun h => by
    split at h
    · rename_i av hav
      obtain ⟨Ds, e1, e2, e3⟩ := h3
      rw [e1]
      exact leaves_marks hav h Ds w' e2 e3 h2 h4
    · exact h.elim
  cases e with
  | normal => exact fin h1
  | ret => exact fin h1
  | exit id => exact h1.elim
  | goto l => exact h1.elim
  | panic ch => exact h1.elim
  | outgrown => exact h1.elim

end
end Go.AL

/-
  AL, part q: the steps of a walk.
-/
set_option linter.unusedSimpArgs false
set_option linter.unusedVariables false
namespace Go.AL
open Go

section
variable {X : Ctx} {N : NR} {H : AHeap} {fr : AFr} {ops : Array Oper} {rest : List Oper} {K : AFr → AHeap → Prop} {dst : Option Tmp} {ty : TypeId} {pos : String} {aft : Array Edge}

theorem st_nil (h : K fr H) : AOps X N ops [] K fr H := h

theorem AOp_of_pv {ρ : Operand → AV} {op : Op} {av : AV} {K : AV → AHeap → Prop} (h : pv X.P H ρ op = some av) (k : K av H) : AOp X H ρ op K := by
  cases op <;> simp only [AOp] <;> try (rw [h]; exact k)
  all_goals try (simp only [pv] at h; cases h; done)
  case call c =>
    obtain ⟨callee, args, ats⟩ := c
    cases callee with
    | value f => simp only [pv] at h; cases h
    | invoke r m => simp only [pv] at h; cases h
    | builtin b =>
      simp only [pv] at h
      cases b <;> simp only [callV] <;> first | (rw [h]; exact k) | (simp only [builtinV] at h; cases h)

theorem AOps_op {op : Op} (hd : dstOk N dst = true) (hp : isPick op = false) (h : AOp X H fr.ev op fun av H' => AOps X N ops rest K (AFr.put dst av fr) H') : AOps X N ops (⟨dst, op, ty, pos, aft, none⟩ :: rest) K fr H := by
  refine ⟨hd, ?_⟩
  cases op <;> first | exact h | cases hp

theorem st_pv {op : Op} {av : AV} (hd : dstOk N dst = true) (hp : isPick op = false) (h : pv X.P H fr.ev op = some av) (k : AOps X N ops rest K (AFr.put dst av fr) H) : AOps X N ops (⟨dst, op, ty, pos, aft, none⟩ :: rest) K fr H :=
  AOps_op hd hp (AOp_of_pv h k)

def whnConds (fr : AFr) : List Operand → List Bool
  | [] => []
  | x :: l => match fr.ev x with
    | .whn d _ => d :: whnConds fr l
    | _ => whnConds fr l
def condsOk (c : Bool) : List Bool → Prop
  | [] => True
  | d :: l => (c = true → d = true) ∧ condsOk c l
theorem allStrip_of {c : Bool} : ∀ {l : List Operand} {ds : List Bool}, whnConds fr l = ds → condsOk c ds → allStrip c fr l
  | [], _, _, _ => trivial
  | x :: l, ds, h, hc => by
    simp only [whnConds] at h
    split at h
    · rename_i d a hx
      subst h
      exact ⟨by simp only [stripOk, hx]; exact hc.1, allStrip_of rfl hc.2⟩
    · rename_i hx
      refine ⟨?_, allStrip_of h hc⟩
      unfold stripOk
      split
      · rename_i d a hd; exact absurd hd (hx d a)
      · trivial

theorem st_spec {op : Op} {av : AV} {c : Bool} {ds : List Bool} {j : Nat} {want : Bool} (hd : dstOk N dst = true) (hp : isPick op = false) (hg : gcond want (guardV ops fr j) = some c) (hs : spec op = true) (hw : whnConds fr op.operands.toList = ds) (hc : condsOk c ds)
    (h : pv X.P H fr.evS op = some av) (k : AOps X N ops rest K (AFr.put dst (.whn c av) fr) H) : AOps X N ops (⟨dst, op, ty, pos, aft, some (j, want)⟩ :: rest) K fr H := by
  refine ⟨hd, ?_⟩
  simp only [hg, hp, hs, Bool.false_eq_true, if_false, if_true]
  exact ⟨allStrip_of hw hc, by rw [h]; exact k⟩

theorem st_guard {op : Op} {c : Bool} {ds : List Bool} {j : Nat} {want : Bool} (hd : dstOk N dst = true) (hg : gcond want (guardV ops fr j) = some c) (hs : spec op = false) (hw : whnConds fr op.operands.toList = ds) (hc : condsOk c ds)
    (h1 : c = true → AOp X H fr.evS op fun av H' => AOps X N ops rest K (AFr.put dst av (setG ops j want true fr)) H') (h2 : c = false → AOps X N ops rest K (AFr.put dst (.v undef) (setG ops j want false fr)) H) :
    AOps X N ops (⟨dst, op, ty, pos, aft, some (j, want)⟩ :: rest) K fr H := by
  have hp : isPick op = false := by cases op <;> first | rfl | cases hs
  refine ⟨hd, ?_⟩
  simp only [hg, hp, hs, Bool.false_eq_true, if_false]
  exact ⟨fun h => ⟨allStrip_of hw hc, h1 h⟩, h2⟩

theorem pickV_of {g : Bool} {c a b : Operand} {t x y : Bool} {dc da db : List Bool} {K : AV → Prop} (hc : fr.evS c = .v (.bool t)) (ha : fr.evS a = .v (.bool x)) (hb : fr.evS b = .v (.bool y)) (h0 : whnConds fr [c] = dc) (h1 : whnConds fr [a] = da) (h2 : whnConds fr [b] = db)
    (h3 : condsOk g dc) (h4 : condsOk (g && t) da) (h5 : condsOk (g && !t) db) (k : K (.v (.bool (if t then x else y)))) : pickV g c a b fr K := by
  unfold pickV
  simp only [hc, ha, hb]
  exact ⟨(allStrip_of h0 h3).1, (allStrip_of h1 h4).1, (allStrip_of h2 h5).1, k⟩
theorem st_pick {c a b : Operand} {t x y : Bool} {dc da db : List Bool} (hd : dstOk N dst = true) (hc : fr.evS c = .v (.bool t)) (ha : fr.evS a = .v (.bool x)) (hb : fr.evS b = .v (.bool y)) (h0 : whnConds fr [c] = dc) (h1 : whnConds fr [a] = da) (h2 : whnConds fr [b] = db)
    (h3 : condsOk true dc) (h4 : condsOk (true && t) da) (h5 : condsOk (true && !t) db) (k : AOps X N ops rest K (AFr.put dst (.v (.bool (if t then x else y))) fr) H) : AOps X N ops (⟨dst, .pick c a b, ty, pos, aft, none⟩ :: rest) K fr H :=
  ⟨hd, pickV_of (K := fun av => AOps X N ops rest K (AFr.put dst av fr) H) hc ha hb h0 h1 h2 h3 h4 h5 k⟩
theorem st_pickg {c a b : Operand} {g t x y : Bool} {j : Nat} {want : Bool} {dc da db : List Bool} (hd : dstOk N dst = true) (hg : gcond want (guardV ops fr j) = some g) (hc : fr.evS c = .v (.bool t)) (ha : fr.evS a = .v (.bool x)) (hb : fr.evS b = .v (.bool y)) (h0 : whnConds fr [c] = dc) (h1 : whnConds fr [a] = da) (h2 : whnConds fr [b] = db)
    (h3 : condsOk g dc) (h4 : condsOk (g && t) da) (h5 : condsOk (g && !t) db) (k : AOps X N ops rest K (AFr.put dst (.whn g (.v (.bool (if t then x else y)))) fr) H) : AOps X N ops (⟨dst, .pick c a b, ty, pos, aft, some (j, want)⟩ :: rest) K fr H := by
  refine ⟨hd, ?_⟩
  simp only [hg, isPick, if_true]
  exact pickV_of (K := fun av => AOps X N ops rest K (AFr.put dst (.whn g av) fr) H) hc ha hb h0 h1 h2 h3 h4 h5 k

theorem st_alloc {T : TypeId} {cs : List AV} (hd : dstOk N dst = true) (hz : zC X.P T = some cs) (k : ∀ b, H.get b = none → AOps X N ops rest K (AFr.put dst (ptrTo b) fr) (H.put b (.box T cs))) : AOps X N ops (⟨dst, .alloc T, ty, pos, aft, none⟩ :: rest) K fr H :=
  AOps_op hd rfl (by simp only [AOp, hz]; exact k)
theorem st_box {T : TypeId} {x : Operand} {cs : List AV} (hd : dstOk N dst = true) (hz : (fr.ev x).cells = some cs) (k : ∀ b, H.get b = none → AOps X N ops rest K (AFr.put dst (ptrTo b) fr) (H.put b (.box T cs))) : AOps X N ops (⟨dst, .box T x, ty, pos, aft, none⟩ :: rest) K fr H :=
  AOps_op hd rfl (by simp only [AOp, hz]; exact k)
theorem st_lit {T e : TypeId} {sz by_ n : Nat} {parts : Array (Nat × Operand)} {es : List (List AV)} (hd : dstOk N dst = true) (hT : elT X.P T = some (e, sz, by_)) (hl : litV sz 0 (parts.toList.map fun p => (p.1, fr.ev p.2)) = some es) (hn : n = parts.size ∧ n * sz ≤ 16777216)
    (k : AOps X N ops rest K (AFr.put dst (.sl true es) fr) H) : AOps X N ops (⟨dst, .buildSlice T n parts, ty, pos, aft, none⟩ :: rest) K fr H :=
  AOps_op hd rfl (by simp only [AOp, hT, hl, if_pos hn]; exact .inl k)
theorem st_litrow {T e : TypeId} {sz by_ n : Nat} {parts : Array (Nat × Operand)} {es : List (List AV)} (hd : dstOk N dst = true) (hT : elT X.P T = some (e, sz, by_)) (hl : litV sz 0 (parts.toList.map fun p => (p.1, fr.ev p.2)) = some es) (hn : n = parts.size ∧ n * sz ≤ 16777216)
    (k : ∀ b, H.get b = none → AOps X N ops rest K (AFr.put dst (.row b sz es.length) fr) (H.put b (.row e sz false es))) : AOps X N ops (⟨dst, .buildSlice T n parts, ty, pos, aft, none⟩ :: rest) K fr H :=
  AOps_op hd rfl (by simp only [AOp, hT, hl, if_pos hn]; exact .inr k)
theorem st_smap {T kt et : TypeId} (hd : dstOk N dst = true) (hT : X.P.underlying T = some (.map kt et)) (hk : X.P.underlying kt = some .string) (k : ∀ b, H.get b = none → AOps X N ops rest K (AFr.put dst (.v (.map (some b))) fr) (H.put b (.smap []))) :
    AOps X N ops (⟨dst, .makeMap T none, ty, pos, aft, none⟩ :: rest) K fr H :=
  AOps_op hd rfl (by simp only [AOp, hT, hk]; exact k)
theorem st_imap {T kt et : TypeId} {ik : IntKind} (hd : dstOk N dst = true) (hT : X.P.underlying T = some (.map kt et)) (hk : X.P.underlying kt = some (.int ik)) (k : ∀ b, H.get b = none → AOps X N ops rest K (AFr.put dst (.v (.map (some b))) fr) (H.put b (.imap ik []))) :
    AOps X N ops (⟨dst, .makeMap T none, ty, pos, aft, none⟩ :: rest) K fr H :=
  AOps_op hd rfl (by simp only [AOp, hT, hk]; exact k)
theorem st_make {T e : TypeId} {sz by_ : Nat} {l c : Operand} {n : Int} {z : List AV} (hd : dstOk N dst = true) (hT : elT X.P T = some (e, sz, by_)) (hl : fr.ev l = .v (.int .i64 n)) (hc : fr.ev c = .v (.int .i64 n)) (hz : zC X.P e = some z)
    (hb : 0 ≤ n ∧ n * by_ ≤ 281474976710656 ∧ 0 < by_) (k : ∀ b, H.get b = none → AOps X N ops rest K (AFr.put dst (.row b sz n.toNat) fr) (H.put b (.row e sz false (List.replicate n.toNat z)))) : AOps X N ops (⟨dst, .makeSlice T l c, ty, pos, aft, none⟩ :: rest) K fr H :=
  AOps_op hd rfl (by simp only [AOp, hT, hl, hc, hz]; rw [if_pos ⟨hb.1, trivial, hb.2⟩]; exact k)
theorem st_store {T : TypeId} {a x : Operand} {H' : AHeap} (hd : dstOk N dst = true) (hs : storeV X.P H T (fr.ev a) (fr.ev x) = some H') (k : AOps X N ops rest K (AFr.put dst .top fr) H') : AOps X N ops (⟨dst, .store T a x, ty, pos, aft, none⟩ :: rest) K fr H :=
  AOps_op hd rfl (by simp only [AOp, hs]; exact k)
theorem st_mapput {T : TypeId} {m x y : Operand} {H' : AHeap} (hd : dstOk N dst = true) (hs : mapputV X.P H T (fr.ev m) (fr.ev x) (fr.ev y) = some H') (k : AOps X N ops rest K (AFr.put dst .top fr) H') : AOps X N ops (⟨dst, .mapUpdate T m x y, ty, pos, aft, none⟩ :: rest) K fr H :=
  AOps_op hd rfl (by simp only [AOp, hs]; exact k)
theorem st_call {f : Operand} {args : Array Operand} {ats : Array TypeId} {g : FuncId} {first cap as : List AV} (hd : dstOk N dst = true) (hf : fr.ev f = .fn (.func g) first cap) (ha : first ++ args.toList.map fr.ev ++ cap = as)
    (k : ACall X g as H fun av H' => AOps X N ops rest K (AFr.put dst av fr) H') : AOps X N ops (⟨dst, .call ⟨.value f, args, ats⟩, ty, pos, aft, none⟩ :: rest) K fr H :=
  AOps_op hd rfl (by subst ha; simp only [AOp, callV, hf]; exact k)
theorem st_append {s x : Operand} {T xT : TypeId} (hd : dstOk N dst = true) (k : AApp X T xT (fr.ev s) (fr.ev x) H fun av H' => AOps X N ops rest K (AFr.put dst av fr) H') : AOps X N ops (⟨dst, .call ⟨.builtin .append, #[s, x], #[T, xT]⟩, ty, pos, aft, none⟩ :: rest) K fr H :=
  AOps_op hd rfl k

theorem yes_call {f : Operand} {args : Array Operand} {ats : Array TypeId} {g : FuncId} {first cap as : List AV} {ρ : Operand → AV} {K : AV → AHeap → Prop} (hf : ρ f = .fn (.func g) first cap) (ha : first ++ args.toList.map ρ ++ cap = as) (k : ACall X g as H K) : AOp X H ρ (.call ⟨.value f, args, ats⟩) K := by
  subst ha; simp only [AOp, callV, hf]; exact k

variable {Q : Exit → AFr → AHeap → Prop}
theorem end_ret {P : Program} {rs : List ResultVar} {K : AV → AHeap → Prop} {av : AV} (h : resAV P H fr rs = some av) (k : K av H) : AEnd P rs K .ret fr H := by simp only [AEnd, h]; exact k
theorem end_normal {P : Program} {rs : List ResultVar} {K : AV → AHeap → Prop} {av : AV} (h : resAV P H fr rs = some av) (k : K av H) : AEnd P rs K .normal fr H := by simp only [AEnd, h]; exact k

end

section
variable {X : Ctx} {N : NR} {d : Nat} {H : AHeap} {fr : AFr} {ops : Array Oper} {rest : List Oper} {K : AFr → AHeap → Prop} {ty : TypeId} {pos : String} {aft : Array Edge}
theorem op_pv {op : Op} {av : AV} (hd : d < N.n) (hp : isPick op = false) (h : pv X.P H fr.ev op = some av) (k : AOps X N ops rest K ((d, av) :: fr) H) : AOps X N ops (⟨some d, op, ty, pos, aft, none⟩ :: rest) K fr H :=
  st_pv (by simpa [dstOk] using hd) hp h k
theorem op_spec {op : Op} {av : AV} {c : Bool} {ds : List Bool} {j : Nat} {want : Bool} (hd : d < N.n) (hp : isPick op = false) (hs : spec op = true) (hg : gcond want (guardV ops fr j) = some c) (hw : whnConds fr op.operands.toList = ds)
    (h : pv X.P H fr.evS op = some av) (hc : condsOk c ds) (k : AOps X N ops rest K ((d, .whn c av) :: fr) H) : AOps X N ops (⟨some d, op, ty, pos, aft, some (j, want)⟩ :: rest) K fr H :=
  st_spec (by simpa [dstOk] using hd) hp hg hs hw hc h k
theorem op_pick {c a b : Operand} {t x y : Bool} {dc da db : List Bool} (hd : d < N.n) (hc : fr.evS c = .v (.bool t)) (ha : fr.evS a = .v (.bool x)) (hb : fr.evS b = .v (.bool y)) (h0 : whnConds fr [c] = dc) (h1 : whnConds fr [a] = da) (h2 : whnConds fr [b] = db)
    (h3 : condsOk true dc) (h4 : condsOk (true && t) da) (h5 : condsOk (true && !t) db) (k : AOps X N ops rest K ((d, .v (.bool (if t then x else y))) :: fr) H) : AOps X N ops (⟨some d, .pick c a b, ty, pos, aft, none⟩ :: rest) K fr H :=
  st_pick (by simpa [dstOk] using hd) hc ha hb h0 h1 h2 h3 h4 h5 k
theorem op_pickg {c a b : Operand} {g t x y : Bool} {j : Nat} {want : Bool} {dc da db : List Bool} (hd : d < N.n) (hg : gcond want (guardV ops fr j) = some g) (hc : fr.evS c = .v (.bool t)) (ha : fr.evS a = .v (.bool x)) (hb : fr.evS b = .v (.bool y)) (h0 : whnConds fr [c] = dc) (h1 : whnConds fr [a] = da) (h2 : whnConds fr [b] = db)
    (h3 : condsOk g dc) (h4 : condsOk (g && t) da) (h5 : condsOk (g && !t) db) (k : AOps X N ops rest K ((d, .whn g (.v (.bool (if t then x else y)))) :: fr) H) : AOps X N ops (⟨some d, .pick c a b, ty, pos, aft, some (j, want)⟩ :: rest) K fr H :=
  st_pickg (by simpa [dstOk] using hd) hg hc ha hb h0 h1 h2 h3 h4 h5 k
theorem op_guard {op : Op} {c : Bool} {ds : List Bool} {j : Nat} {want : Bool} {fr1 fr2 : AFr} (hd : d < N.n) (hs : spec op = false) (hg : gcond want (guardV ops fr j) = some c) (hw : whnConds fr op.operands.toList = ds) (e1 : setG ops j want true fr = fr1) (e2 : setG ops j want false fr = fr2) (hc : condsOk c ds)
    (h1 : c = true → AOp X H fr.evS op fun av H' => AOps X N ops rest K ((d, av) :: fr1) H') (h2 : c = false → AOps X N ops rest K ((d, .v undef) :: fr2) H) :
    AOps X N ops (⟨some d, op, ty, pos, aft, some (j, want)⟩ :: rest) K fr H := by
  subst e1 e2
  exact st_guard (by simpa [dstOk] using hd) hg hs hw hc h1 h2
theorem op_box {T : TypeId} {x : Operand} {av : AV} {cs : List AV} (hd : d < N.n) (hx : fr.ev x = av) (hz : av.cells = some cs) (k : ∀ b, H.get b = none → AOps X N ops rest K ((d, ptrTo b) :: fr) (H.put b (.box T cs))) : AOps X N ops (⟨some d, .box T x, ty, pos, aft, none⟩ :: rest) K fr H :=
  st_box (by simpa [dstOk] using hd) (by rw [hx]; exact hz) k
theorem op_alloc {T : TypeId} {cs : List AV} (hd : d < N.n) (hz : zC X.P T = some cs) (k : ∀ b, H.get b = none → AOps X N ops rest K ((d, ptrTo b) :: fr) (H.put b (.box T cs))) : AOps X N ops (⟨some d, .alloc T, ty, pos, aft, none⟩ :: rest) K fr H :=
  st_alloc (by simpa [dstOk] using hd) hz k
theorem op_lit {T e : TypeId} {sz by_ n : Nat} {parts : Array (Nat × Operand)} {es : List (List AV)} (hd : d < N.n) (hT : elT X.P T = some (e, sz, by_)) (hl : litV sz 0 (parts.toList.map fun p => (p.1, fr.ev p.2)) = some es) (hn : n = parts.size ∧ n * sz ≤ 16777216)
    (k : AOps X N ops rest K ((d, .sl true es) :: fr) H) : AOps X N ops (⟨some d, .buildSlice T n parts, ty, pos, aft, none⟩ :: rest) K fr H := st_lit (by simpa [dstOk] using hd) hT hl hn k
theorem op_litrow {T e : TypeId} {sz by_ n : Nat} {parts : Array (Nat × Operand)} {es : List (List AV)} (hd : d < N.n) (hT : elT X.P T = some (e, sz, by_)) (hl : litV sz 0 (parts.toList.map fun p => (p.1, fr.ev p.2)) = some es) (hn : n = parts.size ∧ n * sz ≤ 16777216)
    (k : ∀ b, H.get b = none → AOps X N ops rest K ((d, .row b sz es.length) :: fr) (H.put b (.row e sz false es))) : AOps X N ops (⟨some d, .buildSlice T n parts, ty, pos, aft, none⟩ :: rest) K fr H := st_litrow (by simpa [dstOk] using hd) hT hl hn k
theorem op_smap {T kt et : TypeId} (hd : d < N.n) (hT : X.P.underlying T = some (.map kt et)) (hk : X.P.underlying kt = some .string) (k : ∀ b, H.get b = none → AOps X N ops rest K ((d, .v (.map (some b))) :: fr) (H.put b (.smap []))) :
    AOps X N ops (⟨some d, .makeMap T none, ty, pos, aft, none⟩ :: rest) K fr H := st_smap (by simpa [dstOk] using hd) hT hk k
theorem op_imap {T kt et : TypeId} {ik : IntKind} (hd : d < N.n) (hT : X.P.underlying T = some (.map kt et)) (hk : X.P.underlying kt = some (.int ik)) (k : ∀ b, H.get b = none → AOps X N ops rest K ((d, .v (.map (some b))) :: fr) (H.put b (.imap ik []))) :
    AOps X N ops (⟨some d, .makeMap T none, ty, pos, aft, none⟩ :: rest) K fr H := st_imap (by simpa [dstOk] using hd) hT hk k
theorem op_make {T e : TypeId} {sz by_ : Nat} {l c : Operand} {n : Int} {z : List AV} (hd : d < N.n) (hT : elT X.P T = some (e, sz, by_)) (hl : fr.ev l = .v (.int .i64 n)) (hc : fr.ev c = .v (.int .i64 n)) (hz : zC X.P e = some z)
    (hb : 0 ≤ n ∧ n * by_ ≤ 281474976710656 ∧ 0 < by_) (k : ∀ b, H.get b = none → AOps X N ops rest K ((d, .row b sz n.toNat) :: fr) (H.put b (.row e sz false (List.replicate n.toNat z)))) : AOps X N ops (⟨some d, .makeSlice T l c, ty, pos, aft, none⟩ :: rest) K fr H :=
  st_make (by simpa [dstOk] using hd) hT hl hc hz hb k
theorem op_call {f : Operand} {args : Array Operand} {ats : Array TypeId} {g : FuncId} {first cap as : List AV} (hd : d < N.n) (hf : fr.ev f = .fn (.func g) first cap) (ha : first ++ args.toList.map fr.ev ++ cap = as)
    (k : ACall X g as H fun av H' => AOps X N ops rest K ((d, av) :: fr) H') : AOps X N ops (⟨some d, .call ⟨.value f, args, ats⟩, ty, pos, aft, none⟩ :: rest) K fr H := st_call (by simpa [dstOk] using hd) hf ha k
theorem op_append {s x : Operand} {a b : AV} {T xT : TypeId} (hd : d < N.n) (hs : fr.ev s = a) (hx : fr.ev x = b) (k : AApp X T xT a b H fun av H' => AOps X N ops rest K ((d, av) :: fr) H') : AOps X N ops (⟨some d, .call ⟨.builtin .append, #[s, x], #[T, xT]⟩, ty, pos, aft, none⟩ :: rest) K fr H :=
  st_append (by simpa [dstOk] using hd) (by rw [hs, hx]; exact k)
theorem op_store {T : TypeId} {a x : Operand} {va vx : AV} {H' : AHeap} (ha : fr.ev a = va) (hx : fr.ev x = vx) (hs : storeV X.P H T va vx = some H') (k : AOps X N ops rest K fr H') : AOps X N ops (⟨none, .store T a x, ty, pos, aft, none⟩ :: rest) K fr H :=
  st_store rfl (by rw [ha, hx]; exact hs) k
theorem op_mapput {T : TypeId} {m x y : Operand} {vm vx vy : AV} {H' : AHeap} (h1 : fr.ev m = vm) (h2 : fr.ev x = vx) (h3 : fr.ev y = vy) (hs : mapputV X.P H T vm vx vy = some H') (k : AOps X N ops rest K fr H') : AOps X N ops (⟨none, .mapUpdate T m x y, ty, pos, aft, none⟩ :: rest) K fr H :=
  st_mapput rfl (by rw [h1, h2, h3]; exact hs) k
theorem cond_split {Q : Exit → AFr → AHeap → Prop} {c : Operand} {x y : Code} {t : Bool} (hc : fr.ev c = .v (.bool t)) (ht : t = true → AWp X N x Q fr H) (hf : t = false → AWp X N y Q fr H) : AWp X N (.cond c x y) Q fr H := AWp_cond hc ht hf
end
end Go.AL

/-
  AL, part r: regions that draw their order: what is read (E) in any order, what is made or written (T) in a fixed one.
-/
set_option linter.unusedSimpArgs false
set_option linter.unusedVariables false
namespace Go.AL
open Go

inductive QOp (X : Ctx) (H : AHeap) (ρ : Operand → AV) : Op → AV → Prop
  | pv {op : Op} {av : AV} (h : pv X.P H ρ op = some av) : QOp X H ρ op av
  | own {op : Op} {av : AV} (h : AOp X H ρ op fun r H' => r = av ∧ H' = H) : QOp X H ρ op av

theorem QOp.call {X : Ctx} {H : AHeap} {ρ : Operand → AV} {f : Operand} {args : Array Operand} {ats : Array TypeId} {g : FuncId} {first cap : List AV} {av : AV} (hf : ρ f = .fn (.func g) first cap)
      (h : ACall X g (first ++ args.toList.map ρ ++ cap) H fun r H' => r = av ∧ H' = H) : QOp X H ρ (.call ⟨.value f, args, ats⟩) av := .own (yes_call hf rfl h)

inductive QVal (X : Ctx) (ops : Array Oper) (H : AHeap) (fr : AFr) : Oper → AV → Prop
  | plain {o : Oper} {av : AV} (hg : o.guard = none) (h : QOp X H fr.ev o.op av) : QVal X ops H fr o av
  | pick {o : Oper} {av : AV} {c a b : Operand} (hg : o.guard = none) (ho : o.op = .pick c a b) (h : pickV true c a b fr (· = av)) : QVal X ops H fr o av
  | guard {o : Oper} {av : AV} {j : Nat} {want c : Bool} (hg : o.guard = some (j, want)) (hc : gcond want (guardV ops fr j) = some c) (hs : allStrip c fr o.op.operands.toList) (h : c = true → QOp X H fr.evS o.op av) : QVal X ops H fr o (.whn c av)
  | gpick {o : Oper} {av : AV} {j : Nat} {want g : Bool} {c a b : Operand} (hg : o.guard = some (j, want)) (hc : gcond want (guardV ops fr j) = some g) (ho : o.op = .pick c a b) (h : pickV g c a b fr (· = av)) : QVal X ops H fr o (.whn g av)

section
variable {X : Ctx} {N : NR} {ops : Array Oper}

def Ext (H H' : AHeap) : Prop := ∀ b o, H.get b = some o → H'.get b = some o
theorem Ext.refl (H : AHeap) : Ext H H := fun _ _ h => h

theorem QOp.does {H H' : AHeap} {w : World} {φ : Nat → Nat} {ρ : Operand → Value} {ρa : Operand → AV} {o : Oper} {av : AV} (h : QOp X H ρa o.op av) (hρ : ∀ x, VR (Fz w φ) (Sh w) (ρ x) (ρa x)) (hr : Rel X w φ H') (he : Ext H H') :
    Does X H' w φ (fun r H'' => r = av ∧ H'' = H') ((execOp ρ o).run X.P w) := by
  have hr0 : Rel X w φ H := ⟨fun b o hb => hr.obj b o (he b o hb), hr.lim, hr.env⟩
  obtain ⟨dst, op, ty, pos, aft, gd⟩ := o
  cases h with
  | pv h =>
    obtain ⟨v, h1, h2⟩ := pv_ok h hρ hr0
    rw [h1]
    exact ⟨av, H', φ, h2, ⟨rfl, rfl⟩, Out.refl hr⟩
  | own h =>
    have hd := AOp_ok (X := X) (H := H) (w := w) (φ := φ) (ρ := ρ) (ρa := ρa) (o := ⟨dst, op, ty, pos, aft, gd⟩) (K := fun r H'' => r = av ∧ H'' = H) h hρ hr0
    unfold Does at hd ⊢
    have fin : ∀ {v : Value} {w' : World}, (∃ av' H'' φ', VR (Fz w' φ') (Sh w') v av' ∧ (av' = av ∧ H'' = H) ∧ Out X H w φ H'' w' φ') → ∃ av' H'' φ', VR (Fz w' φ') (Sh w') v av' ∧ (av' = av ∧ H'' = H') ∧ Out X H' w φ H'' w' φ' := by
      rintro v w' ⟨av', H'', φ', g1, ⟨rfl, rfl⟩, g3⟩
      refine ⟨av', H', φ', g1, ⟨rfl, rfl⟩, g3.frame hr (fun b hb => ?_) (fun b o hb => ?_)⟩
      · cases hc : AHeap.get b H'' with
        | none => exact absurd hc hb
        | some o => rw [he b o hc]; simp
      · cases hc : AHeap.get b H'' with
        | none => exact .inr ⟨rfl, hb⟩
        | some o' => rw [he b o' hc] at hb; exact .inl hb
    split at hd
    · exact fin hd
    · exact fin hd
    · obtain ⟨e, hc⟩ := hd
      refine ⟨e, hc.mono fun e' w' ⟨v, av', H'', φ', g0, g1, g2, g3⟩ => ?_⟩
      obtain ⟨a1, a2, a3, a4, a5, a6⟩ := fin ⟨av', H'', φ', g1, g2, g3⟩
      exact ⟨v, a1, a2, a3, g0, a4, a5, a6⟩
    · obtain ⟨e, hc⟩ := hd
      refine ⟨e, hc.mono fun e' w' ⟨v, av', H'', φ', g0, g1, g2, g3⟩ => ?_⟩
      obtain ⟨a1, a2, a3, a4, a5, a6⟩ := fin ⟨av', H'', φ', g1, g2, g3⟩
      exact ⟨v, a1, a2, a3, g0, a4, a5, a6⟩
    · exact hd.elim

theorem QOp.nd {H : AHeap} {ρ : Operand → AV} {op : Op} {av : AV} (h : QOp X H ρ op av) : ∀ c, op ≠ .defer c := by
  cases h with
  | pv h => exact pv_nd h
  | own h => exact AOp_nd h
theorem QOp.congr {H : AHeap} {ρ ρ' : Operand → AV} {op : Op} {av : AV} (h : QOp X H ρ op av) (hρ : ∀ x ∈ op.operands.toList, ρ x = ρ' x) : QOp X H ρ' op av := by
  cases h with
  | pv h => exact .pv (by rw [← pv_congr hρ]; exact h)
  | own h => exact .own (by rw [← AOp_congr hρ]; exact h)

theorem pickV_congr {fr fr' : AFr} {g : Bool} {c a b : Operand} {K : AV → Prop} (hc : fr.ev c = fr'.ev c) (ha : fr.ev a = fr'.ev a) (hb : fr.ev b = fr'.ev b) (h : pickV g c a b fr K) : pickV g c a b fr' K := by
  unfold pickV AFr.evS at *
  rw [← hc, ← ha, ← hb]; exact h
theorem allStrip_congr {fr fr' : AFr} {c : Bool} : ∀ {l : List Operand}, (∀ x ∈ l, fr.ev x = fr'.ev x) → allStrip c fr l → allStrip c fr' l
  | [], _, _ => trivial
  | x :: l, h, hs => ⟨by rw [← h x (by simp)]; exact hs.1, allStrip_congr (fun y hy => h y (by simp [hy])) hs.2⟩

theorem looks_op {o : Oper} {fr fr' : AFr} (h : ∀ t ∈ o.looksAt ops, AFr.get t fr = AFr.get t fr') : ∀ x ∈ o.op.operands.toList, fr.ev x = fr'.ev x := fun x hx => by
  cases x with
  | tmp t => exact h t (by unfold Oper.looksAt; rw [List.mem_append]; left; rw [List.mem_filterMap]; exact ⟨.tmp t, hx, rfl⟩)
  | const v => rfl
  | global g => rfl
  | func f => rfl
theorem looks_guard {o : Oper} {fr fr' : AFr} {j : Nat} {want : Bool} (hg : o.guard = some (j, want)) (h : ∀ t ∈ o.looksAt ops, AFr.get t fr = AFr.get t fr') : guardV ops fr j = guardV ops fr' j := by
  unfold guardV
  cases ho : ops[j]? with
  | none => rfl
  | some p =>
    simp only
    cases hd : p.dst with
    | none => rfl
    | some d => exact h d (by unfold Oper.looksAt; rw [List.mem_append, hg]; right; simp [ho, hd])

theorem QVal.congr {H : AHeap} {fr fr' : AFr} {o : Oper} {av : AV} (h : QVal X ops H fr o av) (hl : ∀ t ∈ o.looksAt ops, AFr.get t fr = AFr.get t fr') : QVal X ops H fr' o av := by
  have hop := looks_op hl
  have pk : ∀ {c a b : Operand}, o.op = .pick c a b → fr.ev c = fr'.ev c ∧ fr.ev a = fr'.ev a ∧ fr.ev b = fr'.ev b := fun e => by
    rw [e] at hop
    exact ⟨hop _ (by simp [Op.operands]), hop _ (by simp [Op.operands]), hop _ (by simp [Op.operands])⟩
  cases h with
  | plain hg h => exact .plain hg (h.congr hop)
  | pick hg ho h => obtain ⟨h1, h2, h3⟩ := pk ho; exact .pick hg ho (pickV_congr h1 h2 h3 h)
  | guard hg hc hs h => exact .guard hg (by rw [← looks_guard hg hl]; exact hc) (allStrip_congr hop hs) (fun hc => (h hc).congr fun x hx => by unfold AFr.evS; rw [hop x hx])
  | gpick hg hc ho h => obtain ⟨h1, h2, h3⟩ := pk ho; exact .gpick hg (by rw [← looks_guard hg hl]; exact hc) ho (pickV_congr h1 h2 h3 h)

theorem QVal.step {H H' : AHeap} {w : World} {φ : Nat → Nat} {fr : AFr} {a : Act} {o : Oper} {av : AV} {next : Act → World → Prop} {Q : Exit → Act → World → Prop} (h : QVal X ops H fr o av) (hf : FR w φ N a fr) (hr : Rel X w φ H') (he : Ext H H')
    (hn : ∀ v w' φ', VR (Fz w' φ') (Sh w') v av → Out X H' w φ H' w' φ' → next (a.put o.dst v) w') :
    if Region.wanted o (yielded ops a.tmps) then o.wpIn (fen N.ro) 0 X.P a w next Q else (∀ f, o.about X.P w a.eval = some f → (fen N.ro).fn f) ∧ next (a.put o.dst undef) w := by
  have run : ∀ {ρa : Operand → AV} {av' : AV}, QOp X H ρa o.op av' → (∀ x, VR (Fz w φ) (Sh w) (a.eval x) (ρa x)) → (∀ v w' φ', VR (Fz w' φ') (Sh w') v av' → Out X H' w φ H' w' φ' → next (a.put o.dst v) w') → o.wpIn (fen N.ro) 0 X.P a w next Q := fun hq hρ hn =>
    ow_of hq.nd (upon_ok (fr := fr) (hq.does hρ hr he) fun v w' r H'' φ' h1 ⟨h2, h3⟩ h4 => by subst h2 h3; exact hn v w' φ' h1 h4)
  cases h with
  | plain hg h =>
    have hw : Region.wanted o (yielded ops a.tmps) = true := by unfold Region.wanted; rw [hg]
    rw [if_pos hw]
    exact run h hf.ev hn
  | pick hg ho h =>
    have hw : Region.wanted o (yielded ops a.tmps) = true := by unfold Region.wanted; rw [hg]
    rw [if_pos hw]
    obtain ⟨dst, op, ty, pos, aft, gd⟩ := o
    simp only at ho
    subst ho
    obtain ⟨v, av', h1, h2, rfl⟩ := pick_ok (X := X) (ty := ty) (pos := pos) (dst := dst) (aft := aft) (gd := gd) h rfl hf
    refine ow_of (fun _ e => by cases e) ?_
    rw [h1]
    exact hn v w φ h2 (Out.refl hr)
  | guard hg hc hs h =>
    rename_i av j want c
    have hwant : Region.wanted o (yielded ops a.tmps) = c := by unfold Region.wanted; rw [hg]; exact yielded_eq hf hc
    cases c with
    | true =>
      rw [hwant, if_pos rfl]
      exact run ((h rfl).congr fun x hx => evO_mem hx) (evO_ok hf hs rfl) (fun v w' φ' h1 h2 => hn v w' φ' (.whnT h1) h2)
    | false =>
      rw [hwant, if_neg (by simp)]
      exact ⟨fun _ _ => trivial, hn _ w φ (.whnF _) (Out.refl hr)⟩
  | gpick hg hc ho h =>
    rename_i av j want g c x y
    have hwant : Region.wanted o (yielded ops a.tmps) = g := by unfold Region.wanted; rw [hg]; exact yielded_eq hf hc
    cases g with
    | true =>
      rw [hwant, if_pos rfl]
      obtain ⟨dst, op, ty, pos, aft, gd⟩ := o
      simp only at ho
      subst ho
      obtain ⟨v, av', h1, h2, rfl⟩ := pick_ok (X := X) (ty := ty) (pos := pos) (dst := dst) (aft := aft) (gd := gd) h rfl hf
      refine ow_of (fun _ e => by cases e) ?_
      rw [h1]
      exact hn v w φ (.whnT h2) (Out.refl hr)
    | false =>
      rw [hwant, if_neg (by simp)]
      exact ⟨fun _ _ => trivial, hn _ w φ (.whnF _) (Out.refl hr)⟩



def AE (X : Ctx) (N : NR) (ops : Array Oper) (H : AHeap) : List Oper → (AFr → Prop) → AFr → Prop
  | [], K, fr => K fr
  | o :: rest, K, fr => ∃ d av, o.dst = some d ∧ d < N.n ∧ QVal X ops H fr o av ∧ AE X N ops H rest K ((d, av) :: fr)

def AT (X : Ctx) (N : NR) (H0 : AHeap) : Nat → List Oper → (AFr → AHeap → Prop) → AFr → AHeap → Prop
  | _, [], K, fr, H => K fr H
  | m, o :: rest, K, fr, H => dstOk N o.dst = true ∧ o.guard = none ∧ AOp X H fr.ev o.op fun av H' => (0 < m → Ext H0 H') ∧ AT X N H0 (m - 1) rest K (AFr.put o.dst av fr) H'

def Same (fr fr' : AFr) : Prop := ∀ t, AFr.get t fr = AFr.get t fr'
theorem Same.refl (fr : AFr) : Same fr fr := fun _ => rfl
theorem Same.cons {fr fr' : AFr} (h : Same fr fr') (d : Nat) (av : AV) : Same ((d, av) :: fr) ((d, av) :: fr') := fun t => by simp only [AFr.get]; rw [h t]
theorem Same.swap (fr : AFr) {d e : Nat} (h : d ≠ e) (av bv : AV) : Same ((d, av) :: (e, bv) :: fr) ((e, bv) :: (d, av) :: fr) := fun t => by
  simp only [AFr.get]
  by_cases h1 : d = t
  · subst h1; simp [Ne.symm h]
  · simp [h1]
theorem Same.put {fr fr' : AFr} (h : Same fr fr') (d : Option Tmp) (av : AV) : Same (AFr.put d av fr) (AFr.put d av fr') := by
  cases d with
  | none => exact h
  | some d => exact h.cons d av
theorem Same.trans {a b c : AFr} (h : Same a b) (k : Same b c) : Same a c := fun t => (h t).trans (k t)

theorem AE_mono {H : AHeap} : ∀ {l : List Oper} {K K' : AFr → Prop} {fr fr' : AFr}, AE X N ops H l K fr → Same fr fr' → (∀ g g', K g → Same g g' → K' g') → AE X N ops H l K' fr'
  | [], K, K', fr, fr', h, hs, hk => hk _ _ h hs
  | o :: l, K, K', fr, fr', ⟨d, av, h1, h2, h3, h4⟩, hs, hk => ⟨d, av, h1, h2, h3.congr fun t _ => hs t, AE_mono h4 (hs.cons d av) hk⟩

theorem AE_pull {H : AHeap} {K : AFr → Prop} (hK : ∀ g g', K g → Same g g' → K g') {e : Oper} {l2 : List Oper} : ∀ {l1 : List Oper} {fr : AFr}, (∀ p ∈ l1, Oper.apart ops p e = true) → AE X N ops H (l1 ++ e :: l2) K fr →
    ∃ d av, e.dst = some d ∧ d < N.n ∧ QVal X ops H fr e av ∧ AE X N ops H (l1 ++ l2) K ((d, av) :: fr)
  | [], fr, _, h => h
  | p :: l1, fr, ha, ⟨dp, vp, h1, h2, h3, h4⟩ => by
    obtain ⟨de, ve, g1, g2, g3, g4⟩ := AE_pull hK (fun q hq => ha q (by simp [hq])) h4
    obtain ⟨a1, a2, a3⟩ := Oper.apart_spec (ha p (by simp))
    have hne : dp ≠ de := fun e0 => a2 dp h1 (by rw [g1, e0])
    have skip : ∀ {d t : Nat} {v : AV} {fr : AFr}, t ≠ d → AFr.get t ((d, v) :: fr) = AFr.get t fr := fun h => by simp only [AFr.get]; rw [if_neg (Ne.symm h)]
    refine ⟨de, ve, g1, g2, g3.congr fun t ht => skip fun e0 => a1 dp h1 (by rw [← e0]; exact ht), dp, vp, h1, h2, h3.congr fun t ht => (skip fun e0 => a3 de g1 (by rw [← e0]; exact ht)).symm, ?_⟩
    exact AE_mono g4 (Same.swap fr (Ne.symm hne) ve vp) hK

theorem AOp_ev {H : AHeap} {fr fr' : AFr} {op : Op} {K : AV → AHeap → Prop} (hop : ∀ x ∈ op.operands.toList, fr.ev x = fr'.ev x) (h : AOp X H fr.ev op K) : AOp X H fr'.ev op K := by rw [← AOp_congr hop]; exact h

theorem AOp_mono {H : AHeap} {ρ : Operand → AV} {op : Op} {K K' : AV → AHeap → Prop} (hk : ∀ a H, K a H → K' a H) (h : AOp X H ρ op K) : AOp X H ρ op K' := by
  cases op <;> simp only [AOp] at h ⊢ <;> try (split at h <;> first | exact hk _ _ h | exact h.elim; done)
  case alloc T => split at h <;> first | exact fun b hb => hk _ _ (h b hb) | exact h
  case box T x => split at h <;> first | exact fun b hb => hk _ _ (h b hb) | exact h
  case buildSlice T n parts =>
    split at h
    · split at h
      · split at h
        · rename_i hc; rw [if_pos hc]; exact h.imp (hk _ _) (fun h b hb => hk _ _ (h b hb))
        · exact h.elim
      · exact h
    · exact h
  case makeMap T r =>
    split at h
    · split at h <;> first | exact fun b hb => hk _ _ (h b hb) | exact h
    · exact h
  case makeSlice T l c =>
    split at h
    · split at h
      · split at h
        · rename_i hc; rw [if_pos hc]; exact fun b hb => hk _ _ (h b hb)
        · exact h.elim
      · exact h
    · exact h
  case range T x =>
    unfold rangeV at h ⊢
    split at h
    · exact fun r h2 => hk _ _ (h r h2)
    · split at h
      · exact fun e c r h1 h2 => hk _ _ (h e c r h1 h2)
      · exact fun e c r h1 h2 => hk _ _ (h e c r h1 h2)
      · exact h
    · exact h
  case next it s =>
    unfold nextV at h ⊢
    split at h
    · split at h
      · split at h
        · obtain ⟨h1, h2, h3, h4, h5⟩ := h
          exact ⟨h1, h2, h3, fun g => hk _ _ (h4 g), fun i k x g1 g2 g3 => hk _ _ (h5 i k x g1 g2 g3)⟩
        · exact h
      · exact h
    · split at h
      · split at h
        · rename_i hc; simp only [if_pos hc]; exact hk _ _ h
        · rename_i hc; simp only [if_neg hc]; exact hk _ _ h
      · exact h
    · exact h
  case entry it =>
    unfold entryV at h ⊢
    split at h
    · split at h
      · split at h
        · obtain ⟨h1, h2, h3⟩ := h
          refine ⟨h1, h2, ?_⟩
          split at h3
          · exact hk _ _ h3
          · exact h3
        · exact h
      · exact h
    · exact h
  case call c =>
    obtain ⟨callee, args, ats⟩ := c
    cases callee with
    | value f =>
      simp only [callV] at h ⊢
      split at h
      · exact h.mono hk
      · exact h.mono hk
      · exact h
    | invoke r m => exact h
    | builtin b =>
      by_cases hb : b = .append
      rotate_left
      · have e : ∀ K, callV X H ρ ⟨.builtin b, args, ats⟩ K = (match builtinV X.P H b ats (args.toList.map ρ) with | some av => K av H | none => False) := fun K => by
          cases b <;> first | rfl | exact absurd rfl hb
        rw [e] at h ⊢
        split at h
        · exact hk _ _ h
        · exact h.elim
      subst hb
      simp only [callV] at h ⊢
      split at h
      · exact fun ty w φ vs vx hr h1 h2 => let ⟨v, w', av, H', φ', g1, g2, g3, g4⟩ := h ty w φ vs vx hr h1 h2; ⟨v, w', av, H', φ', g1, g2, hk _ _ g3, g4⟩
      · exact h

theorem AT_same {H0 : AHeap} {K : AFr → AHeap → Prop} (hK : ∀ g g' H, K g H → Same g g' → K g' H) : ∀ {l : List Oper} {m : Nat} {fr fr' : AFr} {H : AHeap}, AT X N H0 m l K fr H → Same fr fr' → AT X N H0 m l K fr' H
  | [], m, fr, fr', H, h, hs => hK _ _ _ h hs
  | o :: l, m, fr, fr', H, ⟨h1, h2, h3⟩, hs => ⟨h1, h2, AOp_mono (fun av H' ⟨g1, g2⟩ => ⟨g1, AT_same hK g2 (hs.put o.dst av)⟩) (AOp_ev (fun x _ => by
      cases x with
      | tmp t => exact hs t
      | const v => rfl
      | global g => rfl
      | func f => rfl) h3)⟩

theorem AT_pull {H0 : AHeap} {K : AFr → AHeap → Prop} (hK : ∀ g g' H, K g H → Same g g' → K g' H) {t : Oper} {ts : List Oper} {m : Nat} : ∀ {l : List Oper} {fr : AFr} {H : AHeap}, (∀ p ∈ l, Oper.apart ops p t = true) →
    AE X N ops H0 l (fun fr' => AT X N H0 m (t :: ts) K fr' H) fr →
    dstOk N t.dst = true ∧ t.guard = none ∧ AOp X H fr.ev t.op fun av H' => (0 < m → Ext H0 H') ∧ AE X N ops H0 l (fun fr' => AT X N H0 (m - 1) ts K fr' H') (AFr.put t.dst av fr)
  | [], fr, H, _, h => h
  | p :: l, fr, H, ha, ⟨dp, vp, h1, h2, h3, h4⟩ => by
    obtain ⟨g1, g2, g3⟩ := AT_pull hK (fun q hq => ha q (by simp [hq])) h4
    obtain ⟨a1, a2, a3⟩ := Oper.apart_spec (ha p (by simp))
    have skip : ∀ {d s : Nat} {v : AV} {fr : AFr}, s ≠ d → AFr.get s ((d, v) :: fr) = AFr.get s fr := fun h => by simp only [AFr.get]; rw [if_neg (Ne.symm h)]
    refine ⟨g1, g2, AOp_mono (fun av H' ⟨k1, k2⟩ => ⟨k1, dp, vp, h1, h2, h3.congr fun s hs => ?_, ?_⟩) (AOp_ev (looks_op (ops := ops) fun s hs => skip fun e0 => a1 dp h1 (by rw [← e0]; exact hs)) g3)⟩
    · cases htd : t.dst with
      | none => rfl
      | some d => exact (skip fun e0 => a3 d htd (by rw [← e0]; exact hs)).symm
    · refine AE_mono k2 ?_ (fun g g' k hs => AT_same hK k hs)
      cases htd : t.dst with
      | none => exact Same.refl _
      | some d => exact Same.swap fr (fun e0 => a2 dp h1 (by rw [htd, e0])) av vp

end
end Go.AL

/-
  AL, part s: regions that draw their order, run.
-/
set_option linter.unusedSimpArgs false
set_option linter.unusedVariables false
namespace Go.AL
open Go

section
variable {X : Ctx} {N : NR} {ops : Array Oper}

def bindAny (e : Edge) : Bool := Region.binds .any e

def tabOk (ops : Array Oper) (tab : Array (List Nat)) : Bool :=
  (List.range ops.size).all fun i => match ops[i]? with
    | some o => o.after.all (fun e => !bindAny e || Nat.blt e.on i) && (tab.getD i []).all fun a => o.after.any fun e => bindAny e && (e.on == a || (tab.getD e.on []).contains a)
    | none => true

def apartAt (ops : Array Oper) (i j : Nat) : Bool := match ops[i]?, ops[j]? with
  | some x, some y => Oper.apart ops x y
  | _, _ => false

def ePairs (ops : Array Oper) (tab : Array (List Nat)) : List Nat → Bool
  | [] => true
  | p :: l => l.all (fun e => (tab.getD e []).contains p || apartAt ops p e) && (l.all (fun e => !(e == p)) && ePairs ops tab l)

def tChain (ops : Array Oper) (tab : Array (List Nat)) (E : List Nat) : Nat → List Nat → Bool
  | _, [] => true
  | m, t :: R => E.all (fun p => (tab.getD t []).contains p || (!(m == 0) && apartAt ops p t)) && (R.all (fun s => (tab.getD s []).contains t && !(s == t)) && tChain ops tab E (m - 1) R)

def drawOk (ops : Array Oper) (tab : Array (List Nat)) (E T : List Nat) (m : Nat) : Bool :=
  tabOk ops tab && (List.range ops.size).all (fun i => E.contains i || T.contains i) && E.all (fun i => Nat.blt i ops.size && !T.contains i) && T.all (fun i => Nat.blt i ops.size) && ePairs ops tab E && tChain ops tab E m T && Nat.ble (E.length + T.length) ops.size

theorem tabOk_lex {tab : Array (List Nat)} (h : tabOk ops tab = true) {i : Nat} {o : Oper} (ho : ops[i]? = some o) {e : Edge} (he : e ∈ o.after) (hb : Region.binds .any e = true) : e.on < i := by
  unfold tabOk at h
  rw [List.all_eq_true] at h
  have h1 := h i (List.mem_range.2 (Array.getElem?_eq_some_iff.1 ho).1)
  rw [ho] at h1
  simp only [Bool.and_eq_true, Array.all_eq_true_iff_forall_mem] at h1
  have h2 := h1.1 e he
  simp only [bindAny, hb, Bool.not_true, Bool.false_or] at h2
  exact (by simpa using h2 : e.on < i)

theorem tabOk_anc {tab : Array (List Nat)} (h : tabOk ops tab = true) {i a : Nat} {o : Oper} (ho : ops[i]? = some o) (ha : a ∈ tab.getD i []) : ∃ e ∈ o.after, Region.binds .any e = true ∧ (e.on = a ∨ a ∈ tab.getD e.on []) := by
  unfold tabOk at h
  rw [List.all_eq_true] at h
  have h1 := h i (List.mem_range.2 (Array.getElem?_eq_some_iff.1 ho).1)
  rw [ho] at h1
  simp only [Bool.and_eq_true, List.all_eq_true] at h1
  have h2 := h1.2 a ha
  rw [← Array.any_toList, List.any_eq_true] at h2
  obtain ⟨e, he, h3⟩ := h2
  rw [Array.mem_toList_iff] at he
  simp only [bindAny, Bool.and_eq_true, Bool.or_eq_true, beq_iff_eq, List.contains_iff_mem] at h3
  exact ⟨e, he, h3.1, h3.2⟩

def Closed (tab : Array (List Nat)) (listed : Array Bool) : Prop := ∀ i, listed.getD i false = true → ∀ a ∈ tab.getD i [], listed.getD a false = true

theorem getD_of_set {listed : Array Bool} {i j : Nat} (h : i < listed.size) (b : Bool) : (listed.setIfInBounds i true).getD j b = if j = i then true else listed.getD j b := by
  simp only [Array.getD_eq_getD_getElem?, Array.getElem?_setIfInBounds]
  by_cases hj : j = i
  · subst hj; simp [h]
  · rw [if_neg (Ne.symm hj), if_neg hj]

theorem anc_listed {tab : Array (List Nat)} (h : tabOk ops tab = true) {listed : Array Bool} (hc : Closed tab listed) {i : Nat} (hi : i ∈ Region.ready .any ops listed) {a : Nat} (ha : a ∈ tab.getD i []) : listed.getD a false = true := by
  obtain ⟨h0, o, ho, hall⟩ := mem_ready.1 hi
  obtain ⟨e, he, hb, h1⟩ := tabOk_anc h ho ha
  have h2 := hall e he hb
  rcases h1 with rfl | h1
  · exact h2
  · exact hc _ h2 _ h1

theorem Closed.set {tab : Array (List Nat)} (h : tabOk ops tab = true) {listed : Array Bool} (hc : Closed tab listed) (hs : listed.size = ops.size) {i : Nat} (hi : i ∈ Region.ready .any ops listed) : Closed tab (listed.setIfInBounds i true) := fun j hj a ha => by
  obtain ⟨h0, o, ho, hall⟩ := mem_ready.1 hi
  have hlt : i < listed.size := by rw [hs]; exact (Array.getElem?_eq_some_iff.1 ho).1
  rw [getD_of_set hlt] at hj ⊢
  split
  · rfl
  · split at hj
    · rename_i hji; subst hji; exact anc_listed h hc hi ha
    · exact hc j hj a ha

theorem ready_of_left {tab : Array (List Nat)} (h : tabOk ops tab = true) {listed : Array Bool} : ∀ (n i : Nat), i < n → i < ops.size → listed.getD i true = false → Region.ready .any ops listed ≠ []
  | 0, _, h0, _, _ => absurd h0 (by omega)
  | n + 1, i, h0, hi, hl => by
    intro hr
    by_cases hall : ∀ e ∈ (ops[i]).after, Region.binds .any e = true → listed.getD e.on false = true
    · have : i ∈ Region.ready .any ops listed := mem_ready.2 ⟨hl, ops[i], Array.getElem?_eq_getElem hi, hall⟩
      rw [hr] at this
      cases this
    · simp only [Classical.not_forall] at hall
      obtain ⟨e, he, hb, hf⟩ := hall
      have hlt := tabOk_lex h (Array.getElem?_eq_getElem hi) he hb
      by_cases hsz : e.on < listed.size
      · refine ready_of_left h n e.on (by omega) (by omega) ?_ hr
        rw [Array.getD_eq_getD_getElem?, Array.getElem?_eq_getElem hsz] at hf ⊢
        simpa using hf
      · exfalso
        rw [Array.getD_eq_getD_getElem?, Array.getElem?_eq_none (by omega)] at hl
        simp at hl

def opsOf (ops : Array Oper) (L : List Nat) : List Oper := L.filterMap fun i => ops[i]?

theorem ePairs_split {tab : Array (List Nat)} {i : Nat} {l2 : List Nat} : ∀ {l1 : List Nat}, ePairs ops tab (l1 ++ i :: l2) = true → (∀ p ∈ l1, i ∉ tab.getD p [] ∨ True) ∧ (∀ p ∈ l1, p ∈ tab.getD i [] ∨ apartAt ops p i = true) ∧ ePairs ops tab (l1 ++ l2) = true ∧ i ∉ l1 ++ l2
  | [], h => by
    simp only [List.nil_append, ePairs, Bool.and_eq_true, List.all_eq_true, Bool.not_eq_true', beq_eq_false_iff_ne] at h
    exact ⟨fun _ _ => .inr trivial, fun p hp => absurd hp List.not_mem_nil, h.2.2, fun hm => h.2.1 i hm rfl⟩
  | p :: l1, h => by
    simp only [List.cons_append, ePairs, Bool.and_eq_true, List.all_eq_true, Bool.not_eq_true', beq_eq_false_iff_ne, Bool.or_eq_true, List.contains_iff_mem] at h
    obtain ⟨h1, h2, h3⟩ := h
    obtain ⟨_, g2, g3, g4⟩ := ePairs_split h3
    refine ⟨fun _ _ => .inr trivial, fun q hq => ?_, ?_, ?_⟩
    · rcases List.mem_cons.1 hq with rfl | hq
      · exact h1 i (by simp)
      · exact g2 q hq
    · simp only [List.cons_append, ePairs, Bool.and_eq_true, List.all_eq_true, Bool.not_eq_true', beq_eq_false_iff_ne, Bool.or_eq_true, List.contains_iff_mem]
      refine ⟨fun q hq => h1 q ?_, fun q hq => h2 q ?_, g3⟩ <;> · rw [List.mem_append] at hq ⊢; rcases hq with hq | hq <;> simp [hq]
    · intro hm
      rcases List.mem_cons.1 (by simpa using hm : i ∈ p :: (l1 ++ l2)) with rfl | hm
      · exact h2 i (by simp) rfl
      · exact g4 hm

theorem opsOf_cut {l1 l2 : List Nat} {i : Nat} {o : Oper} (ho : ops[i]? = some o) : opsOf ops (l1 ++ i :: l2) = opsOf ops l1 ++ o :: opsOf ops l2 := by
  simp [opsOf, List.filterMap_append, ho]
theorem opsOf_append {l1 l2 : List Nat} : opsOf ops (l1 ++ l2) = opsOf ops l1 ++ opsOf ops l2 := by simp [opsOf]

theorem FR.same {w : World} {φ : Nat → Nat} {a : Act} {fr fr' : AFr} (h : FR w φ N a fr) (hs : Same fr fr') : FR w φ N a fr' := ⟨h.size, fun t => by rw [← hs t]; exact h.at_ t⟩

theorem apart_of {i : Nat} {o : Oper} (ho : ops[i]? = some o) {l1 : List Nat} (h : ∀ p ∈ l1, apartAt ops p i = true) : ∀ p ∈ opsOf ops l1, Oper.apart ops p o = true := fun p hp => by
  unfold opsOf at hp
  rw [List.mem_filterMap] at hp
  obtain ⟨j, hj, hp⟩ := hp
  have := h j hj
  unfold apartAt at this
  rw [hp, ho] at this
  exact this

theorem drawn {tab : Array (List Nat)} (ht : tabOk ops tab = true) {E : List Nat} {H0 : AHeap} {K : AFr → AHeap → Prop} (hK : ∀ g g' H, K g H → Same g g' → K g' H) {Q : Exit → AFr → AHeap → Prop} (hQ : ∀ fr H, K fr H → ∃ fr', Same fr fr' ∧ Q .normal fr' H) :
    ∀ (fuel : Nat) (listed : Array Bool) (L R : List Nat) (m : Nat) (a : Act) (w : World) (φ : Nat → Nat) (fr : AFr) (H : AHeap) {H1 : AHeap} {w1 : World} {φ1 : Nat → Nat},
      listed.size = ops.size → Closed tab listed → (∀ i, listed.getD i true = false → i ∈ L ∨ i ∈ R) → (∀ i, i ∈ L ∨ i ∈ R → listed.getD i true = false) → (∀ i ∈ L, i ∉ R) → ePairs ops tab L = true → (∀ i ∈ L, i ∈ E) → tChain ops tab E m R = true →
      AE X N ops H0 (opsOf ops L) (fun fr' => AT X N H0 m (opsOf ops R) K fr' H) fr → FR w φ N a fr → Dfr w1 H w a.defers → Rel X w φ H → Out X H1 w1 φ1 H w φ → (Ext H0 H ∨ L = []) → L.length + R.length ≤ fuel →
      wpAnyIn (fen N.ro) 0 X.P .any ops (Post X N H1 w1 φ1 Q) fuel listed a w := by
  have fin : ∀ {L R : List Nat} {m : Nat} {a : Act} {w : World} {φ : Nat → Nat} {fr : AFr} {H H1 : AHeap} {w1 : World} {φ1 : Nat → Nat}, L = [] → R = [] → AE X N ops H0 (opsOf ops L) (fun fr' => AT X N H0 m (opsOf ops R) K fr' H) fr → FR w φ N a fr → Dfr w1 H w a.defers → Out X H1 w1 φ1 H w φ → Post X N H1 w1 φ1 Q .normal a w := fun {L R m a w φ fr H H1 w1 φ1} hL hR h hf hd ho => by
    subst hL hR
    obtain ⟨fr', h1, h2⟩ := hQ _ _ h
    exact ⟨fr', H, φ, h2, hf.same h1, hd, ho⟩
  intro fuel
  induction fuel with
  | zero =>
    intro listed L R m a w φ fr H H1 w1 φ1 hsz hcl hun hun' hdis hep hLE htc hAE hf hd hr ho hext hlen
    have hL : L = [] := List.length_eq_zero_iff.1 (by omega)
    have hR : R = [] := List.length_eq_zero_iff.1 (by omega)
    refine ⟨?_, fin hL hR hAE hf hd ho⟩
    cases hrd : Region.ready .any ops listed with
    | nil => rfl
    | cons i l =>
      have hi : i ∈ Region.ready .any ops listed := by rw [hrd]; simp
      obtain ⟨h0, _⟩ := mem_ready.1 hi
      rcases hun i h0 with h | h
      · rw [hL] at h; cases h
      · rw [hR] at h; cases h
  | succ fuel ih =>
    intro listed L R m a w φ fr H H1 w1 φ1 hsz hcl hun hun' hdis hep hLE htc hAE hf hd hr ho hext hlen
    refine ⟨fun hrd => ?_, fun i hi => ?_⟩
    · have none_left : ∀ i, i ∈ L ∨ i ∈ R → False := fun i h => by
        have h0 := hun' i h
        refine ready_of_left ht (i + 1) i (by omega) ?_ h0 hrd
        rw [← hsz]
        refine Classical.byContradiction fun hge => ?_
        rw [Array.getD_eq_getD_getElem?, Array.getElem?_eq_none (by omega)] at h0
        simp at h0
      have hL : L = [] := by cases L with
        | nil => rfl
        | cons i l => exact (none_left i (.inl (by simp))).elim
      have hR : R = [] := by cases R with
        | nil => rfl
        | cons i l => exact (none_left i (.inr (by simp))).elim
      exact fin hL hR hAE hf hd ho
    · have hanc := fun b hb => anc_listed (a := b) ht hcl hi hb
      obtain ⟨h0, o, hop, hall⟩ := mem_ready.1 hi
      have hlt : i < listed.size := by rw [hsz]; exact (Array.getElem?_eq_some_iff.1 hop).1
      have hcl' := hcl.set ht hsz hi
      have hno : ∀ p, p ∈ L ∨ p ∈ R → p ∉ tab.getD i [] := fun p hp hm => by
        have h1 := hanc p hm
        have h2 := hun' p hp
        rw [Array.getD_eq_getD_getElem?] at h1 h2
        cases hq : listed[p]? with
        | none => rw [hq] at h1; cases h1
        | some b => rw [hq] at h1 h2; simp at h1 h2; rw [h1] at h2; cases h2
      unfold wpOpIn
      rw [hop]
      simp only
      rcases hun i h0 with hiL | hiR
      · obtain ⟨l1, l2, rfl⟩ := List.append_of_mem hiL
        obtain ⟨_, g2, g3, g4⟩ := ePairs_split hep
        have hap : ∀ p ∈ l1, apartAt ops p i = true := fun p hp => (g2 p hp).resolve_left (hno p (.inl (by simp [hp])))
        rw [opsOf_cut hop] at hAE
        obtain ⟨d, av, k1, k2, k3, k4⟩ := AE_pull (fun g g' k hs => AT_same hK k hs) (apart_of hop hap) hAE
        have hE : Ext H0 H := hext.resolve_right (by simp)
        have hstep := QVal.step (X := X) (N := N) (next := fun a' w' => wpAnyIn (fen N.ro) 0 X.P .any ops (Post X N H1 w1 φ1 Q) fuel (listed.setIfInBounds i true) a' w') (Q := Post X N H1 w1 φ1 Q) k3 hf hr hE (fun v w' φ' h1 h2 => by
          refine ih _ (l1 ++ l2) R m _ _ φ' ((d, av) :: fr) H (by simp [hsz]) hcl' (fun j hj => ?_) (fun j hj => ?_) (fun j hj => ?_) g3 (fun j hj => ?_) htc ?_ ?_ (by rw [defers_put]; exact hd.out h2) h2.rel (ho.trans h2) (.inl hE) (by simp at hlen ⊢; omega)
          · rw [getD_of_set hlt] at hj
            split at hj
            · cases hj
            · rename_i hji
              rcases hun j hj with h | h
              · left
                rw [List.mem_append, List.mem_cons] at h
                rw [List.mem_append]
                rcases h with h | h | h
                · exact .inl h
                · exact absurd h hji
                · exact .inr h
              · exact .inr h
          · rw [getD_of_set hlt]
            rw [if_neg]
            · exact hun' j (hj.imp (fun h => by rw [List.mem_append] at h; rcases h with h | h <;> simp [h]) id)
            · rintro rfl
              rcases hj with h | h
              · exact g4 h
              · exact hdis j (by simp) h
          · exact hdis j (by rw [List.mem_append] at hj; rcases hj with h | h <;> simp [h])
          · exact hLE j (by rw [List.mem_append] at hj; rcases hj with h | h <;> simp [h])
          · rw [opsOf_append]; exact k4
          · rw [k1]; exact (hf.out h2).put k2 h1)
        split
        · rename_i hw; rw [if_pos hw] at hstep; exact hstep
        · rename_i hw; rw [if_neg hw] at hstep; exact hstep
      · have hR1 : ∃ r2, R = i :: r2 := by
          cases R with
          | nil => cases hiR
          | cons t r =>
            rcases List.mem_cons.1 hiR with rfl | h
            · exact ⟨r, rfl⟩
            · exfalso
              simp only [tChain, Bool.and_eq_true, List.all_eq_true, List.contains_iff_mem] at htc
              exact hno t (.inr (by simp)) (htc.2.1 i h).1
        obtain ⟨r2, rfl⟩ := hR1
        simp only [tChain, Bool.and_eq_true, List.all_eq_true, List.contains_iff_mem, Bool.or_eq_true, Bool.not_eq_true', beq_eq_false_iff_ne] at htc
        obtain ⟨c1, c2, c3⟩ := htc
        have hap : ∀ p ∈ L, m ≠ 0 ∧ apartAt ops p i = true := fun p hp => (c1 p (hLE p hp)).resolve_left (hno p (.inl hp))
        have hcut : opsOf ops (i :: r2) = o :: opsOf ops r2 := opsOf_cut (l1 := []) hop
        rw [hcut] at hAE
        obtain ⟨k1, k2, k3⟩ := AT_pull hK (apart_of hop fun p hp => (hap p hp).2) hAE
        have hw : Region.wanted o (yielded ops a.tmps) = true := by unfold Region.wanted; rw [k2]
        rw [if_pos hw]
        refine ow_of (AOp_nd k3) (upon_ok (fr := fr) (AOp_ok (X := X) (w := w) (φ := φ) k3 hf.ev hr) fun v w' av H' φ' h1 ⟨h2, h3⟩ h4 => ?_)
        have hiL : i ∉ L := fun h => hdis i h (by simp)
        refine ih _ L r2 (m - 1) _ _ φ' (AFr.put o.dst av fr) H' (by simp [hsz]) hcl' (fun j hj => ?_) (fun j hj => ?_) (fun j hj => ?_) hep hLE c3 h3 ((hf.out h4).put' k1 h1) (by rw [defers_put]; exact hd.out h4) h4.rel (ho.trans h4) ?_ (by simp at hlen ⊢; omega)
        · rw [getD_of_set hlt] at hj
          split at hj
          · cases hj
          · rename_i hji
            rcases hun j hj with h | h
            · exact .inl h
            · rcases List.mem_cons.1 h with h | h
              · exact absurd h hji
              · exact .inr h
        · rw [getD_of_set hlt, if_neg]
          · exact hun' j (hj.imp id fun h => by simp [h])
          · rintro rfl
            rcases hj with h | h
            · exact hiL h
            · exact (c2 j h).2 rfl
        · exact fun h => hdis j hj (by simp [h])
        · cases L with
          | nil => exact .inr rfl
          | cons p l => exact .inl (h2 (Nat.pos_of_ne_zero (hap p (by simp)).1))

theorem AT_mono {H0 : AHeap} {K K' : AFr → AHeap → Prop} (hK : ∀ fr H, K fr H → K' fr H) : ∀ {l : List Oper} {m : Nat} {fr : AFr} {H : AHeap}, AT X N H0 m l K fr H → AT X N H0 m l K' fr H
  | [], m, fr, H, h => hK _ _ h
  | o :: l, m, fr, H, ⟨h1, h2, h3⟩ => ⟨h1, h2, AOp_mono (fun av H' ⟨g1, g2⟩ => ⟨g1, AT_mono hK g2⟩) h3⟩

theorem AWp_draw {id : Nat} {tab : Array (List Nat)} {E T : List Nat} {m : Nat} {lE lT : List Oper} {Q : Exit → AFr → AHeap → Prop} {fr : AFr} {H : AHeap} (hm : X.P.follows .mixedOrders = true) (hok : drawOk ops tab E T m = true)
    (hE : opsOf ops E = lE) (hT : opsOf ops T = lT) (h : AE X N ops H lE (fun fr' => AT X N H m lT (fun fr H => Q .normal fr H) fr' H) fr) : AWp X N (.region id ops true) Q fr H := fun a w φ H0 w0 φ0 hf hd hr ho => by
  subst hE hT
  simp only [drawOk, Bool.and_eq_true, List.all_eq_true, Bool.or_eq_true, List.contains_iff_mem, List.mem_range, Bool.not_eq_true'] at hok
  obtain ⟨⟨⟨⟨⟨⟨h1, h2⟩, h3⟩, h4⟩, h5⟩, h6⟩, h7⟩ := hok
  have hr' : Rel X { w with drawn := w.drawn + 1 } φ H := ⟨fun b o hb => hr.obj b o hb, hr.lim, hr.env⟩
  have ho' : Out X H w φ H { w with drawn := w.drawn + 1 } φ := ⟨⟨rfl, rfl, rfl, Nat.le_refl _, fun _ _ h => h, fun _ _ h => h, fun _ _ _ => ⟨rfl, rfl⟩⟩, hr', fun _ h => .inl h, fun _ => Nat.le_add_right _ _⟩
  refine wpIn_region_any hm (drawn h1 (E := E) (H0 := H) (K := fun fr H => ∃ fr', Same fr' fr ∧ Q .normal fr' H) (fun g g' H ⟨f, k1, k2⟩ hs => ⟨f, k1.trans hs, k2⟩) (fun fr H ⟨f, k1, k2⟩ => ⟨f, fun t => (k1 t).symm, k2⟩) ops.size (Array.replicate ops.size false) E T m a _ φ fr H (by simp) (fun i hi => ?_) (fun i hi => ?_) (fun i hi => ?_) (fun i hi => ?_) h5 (fun i hi => hi) h6 ?_ (hf.out ho') (hd.out ho') hr' (ho.trans ho') (.inl (Ext.refl H)) ?_)
  · exfalso
    rw [Array.getD_eq_getD_getElem?, Array.getElem?_replicate] at hi
    split at hi <;> cases hi
  · rw [Array.getD_eq_getD_getElem?, Array.getElem?_replicate] at hi
    split at hi
    · rename_i hlt; exact h2 i hlt
    · cases hi
  · have hlt : i < ops.size := by
      rcases hi with hi | hi
      · exact (by simpa using (h3 i hi).1 : i < ops.size)
      · exact (by simpa using h4 i hi : i < ops.size)
    rw [Array.getD_eq_getD_getElem?, Array.getElem?_replicate, if_pos hlt]; rfl
  · intro hT
    have := (h3 i hi).2
    rw [List.contains_eq_mem] at this
    simp [hT] at this
  · refine AE_mono h (Same.refl _) fun g g' k hs => ?_
    exact AT_same (fun g g' H ⟨f, k1, k2⟩ hs => ⟨f, k1.trans hs, k2⟩) (AT_mono (fun fr H q => ⟨fr, Same.refl _, q⟩) k) hs
  · exact (by simpa using h7 : E.length + T.length ≤ ops.size)

end
end Go.AL

/-
  AL, part t: what a law is handed, opened; what it leaves, closed.
-/
set_option linter.unusedSimpArgs false
set_option linter.unusedVariables false
namespace Go.AL
open Go Go.RowKit Go.ChangeShapes

def phi0 (w : World) (b : Nat) : Nat := match w.heap[b]? with
  | some (.cells arr _ _) => arr.size
  | _ => 0

theorem fz0 {w : World} {ad : Addr} {u : Value} (h : w.cell? ad = some u) : Fz w (phi0 w) ad u := by
  refine ⟨h, ?_⟩
  unfold World.cell? at h
  unfold phi0
  cases hb : w.heap[ad.block]? with
  | none => rw [hb] at h; cases h
  | some o =>
    rw [hb] at h
    cases o with
    | cells arr T fr =>
      simp only at h ⊢
      split at h
      · cases h
      · exact (Array.getElem?_eq_some_iff.1 h).1
    | _ => cases h

theorem rel0 {X : Ctx} {w : World} (h : X.Γ (Fz w (phi0 w))) : Rel X w (phi0 w) AHeap.nil :=
  ⟨fun b o hb => absurd hb (by simp [AHeap.get, AHeap.nil]), fun b hb => by show phi0 w b = 0; unfold phi0; rw [Array.getElem?_eq_none hb], h⟩

section
variable {H : Type} {enc : TypeId × Value → H} {P : Program} {w : World}

def Opens {H : Type} (enc : TypeId × Value → H) (P : Program) (w : World) (n : Nat) (t : TypeId) (R : List AV → Prop) : Prop :=
  ∀ cs x, DataW.trod enc P w 0 (fun _ => true) true n t cs = some x → ∃ as, VRs (Fz w (phi0 w)) (Sh w) cs as ∧ R as ∧ as.length = P.cellsOf t

theorem Opens.mono {n : Nat} {t : TypeId} {R R' : List AV → Prop} (h : Opens enc P w n t R) (hr : ∀ as, R as → R' as) : Opens enc P w n t R' := fun cs x hx =>
  let ⟨as, h1, h2, h3⟩ := h cs x hx; ⟨as, h1, hr as h2, h3⟩

theorem cells_crs {ad : Addr} {k : Nat} {cs : List Value} {as : List AV} (h : w.cells? 0 ad k = some cs) (hv : VRs (Fz w (phi0 w)) (Sh w) cs as) : CRs (Fz w (phi0 w)) (Sh w) ad 0 as := by
  obtain ⟨_, h1, h2⟩ := World.cells?_some h
  refine CRs.of_get _ _ fun i a hi => ?_
  obtain ⟨u, hu, hv'⟩ := hv.get i a hi
  refine ⟨u, fz0 ?_, hv'⟩
  rw [Nat.zero_add, h2 i (by rw [← h1]; exact (List.getElem?_eq_some_iff.1 hu).1), hu]

theorem list_choose {α β : Type} {p : α → β → Prop} : ∀ {l : List α}, (∀ x ∈ l, ∃ y, p x y) → ∃ m : List β, m.length = l.length ∧ ∀ (i : Nat) (x : α), l[i]? = some x → ∃ y, m[i]? = some y ∧ p x y
  | [], _ => ⟨[], rfl, fun i x h => by cases h⟩
  | a :: l, h => by
    obtain ⟨y, hy⟩ := h a (by simp)
    obtain ⟨m, h1, h2⟩ := list_choose (l := l) fun x hx => h x (by simp [hx])
    refine ⟨y :: m, by simp [h1], fun i x hx => ?_⟩
    cases i with
    | zero => simp at hx; subst hx; exact ⟨y, rfl, hy⟩
    | succ i => simpa using h2 i x (by simpa using hx)

inductive Parts : List (List AV → Prop) → List AV → Prop
  | nil : Parts [] []
  | cons {R : List AV → Prop} {Rs : List (List AV → Prop)} {as bs : List AV} (h : R as) (hs : Parts Rs bs) : Parts (R :: Rs) (as ++ bs)

inductive Fields {H : Type} (enc : TypeId × Value → H) (P : Program) (w : World) (n : Nat) : Nat → List Field → List (List AV → Prop) → Prop
  | nil {off : Nat} : Fields enc P w n off [] []
  | cons {off : Nat} {f : Field} {fs : List Field} {R : List AV → Prop} {Rs : List (List AV → Prop)} (ho : f.offset = off) (h : Opens enc P w n f.type R) (hs : Fields enc P w n (off + P.cellsOf f.type) fs Rs) : Fields enc P w n off (f :: fs) (R :: Rs)

end

theorem Out.below {X : Ctx} {w w' : World} {φ φ' : Nat → Nat} {H' : AHeap} (h : Out X AHeap.nil w φ H' w' φ') : Below w.heap.size w w' :=
  ⟨h.step.os, h.step.tape, h.step.output, h.step.size, fun k hk => (h.step.un k hk rfl).1⟩

theorem Below.trodAll {H : Type} {enc : TypeId × Value → H} {P : Program} (hl : laidOutB P = true) {W W' : World} (hb : Below W.heap.size W W') {sp : Nat → Bool} :
    ∀ {ts : List TypeId} {vs : List Value} {ds : List (DataW H)} {ps : List MemPlace}, (ts.all fun t => P.readableRec t && decide (t < P.types.size)) = true → DataW.TrodAll enc P W 0 (fun _ => true) true ts vs ds ps → (∀ x ∈ ps, x.block < W.heap.size) → (∀ x ∈ ps, sp x.block = true) → DataW.TrodAll enc P W' 0 sp true ts vs ds ps
  | [], vs, ds, ps, _, h, _, _ => by
    obtain ⟨rfl, rfl, rfl⟩ := trodAll_nil h
    exact trodAll_mk0
  | t :: ts, vs, ds, ps, ht, h, hlt, hsp => by
    obtain ⟨v, vs', d, ds', p, q, rfl, rfl, rfl, h0, hr⟩ := trodAll_cons h
    simp only [List.all_cons, Bool.and_eq_true, decide_eq_true_eq] at ht
    exact trodAll_cons_mk (Go.WideElems.Trod_stays hl ht.1.1 ht.1.2 h0 (fun x hx => hb.same (hlt x (by simp [hx]))) (fun x hx => hsp x (by simp [hx])))
      (Below.trodAll hl hb ht.2 hr (fun x hx => hlt x (by simp [hx])) (fun x hx => hsp x (by simp [hx])))

theorem post_true {H : Type} {enc : TypeId × Value → H} {P : Program} {f : Func} {s : ChangeSpec} {W W' : World} {args : Array Value} {ds gs : List (DataW H)} {before : List MemPlace} {tb : TypeId}
    (hW : DataW.Whole enc P f.params.toList s.vars false W args.toList ds gs before) (hl : laidOutB P = true) (ht : (f.params.toList.all fun t => P.readableRec t && decide (t < P.types.size)) = true) (hv : s.vars = [])
    (hres : (s.fn H (ds ++ gs)).results = [.lit (.bool true)]) (hargs : (s.fn H (ds ++ gs)).args = ds) (hvars : (s.fn H (ds ++ gs)).vars = []) (hr : f.resultTypes = #[tb]) (htb : P.underlying tb = some .bool) (hb : Below W.heap.size W W') :
    s.post enc P f false true false false W args (.bool true) W' := by
  have hW' := hW
  obtain ⟨p, q, hA, hV, rfl, hfz, hnd⟩ := hW
  have hlt : ∀ x ∈ p ++ q, x.block < W.heap.size := fun x hx => by simpa using hW'.lt x hx
  rw [hv] at hV
  obtain ⟨rfl, rfl⟩ := trodVars_none hV
  refine ⟨ds, [], p ++ [], [], p, [], hW', ?_, ?_, ?_, hb.frame _, fun h => by cases h⟩
  · rw [hres, hr]
    exact trodAll_mk1 (shut_bool htb true)
  · rw [hargs]
    exact Below.trodAll hl hb ht hA (fun x hx => hlt x (by simp [hx])) (fun x hx => by simpa using hlt x (by simp [hx]))
  · rw [hvars, hv]; rfl

theorem calls_true {H : Type} {enc : TypeId × Value → H} {X : Ctx} {n : FuncId} {f : Func} {s : ChangeSpec} {W : World} {args : List Value} {as : List AV} {ds gs : List (DataW H)} {before : List MemPlace} {tb : TypeId}
    (hc : ACall X n as AHeap.nil fun a _ => a = .v (.bool true)) (hx : VRs (Fz W (phi0 W)) (Sh W) args as) (hΓ : X.Γ (Fz W (phi0 W)))
    (hW : DataW.Whole enc X.P f.params.toList s.vars false W args ds gs before) (hl : laidOutB X.P = true) (ht : (f.params.toList.all fun t => X.P.readableRec t && decide (t < X.P.types.size)) = true) (hv : s.vars = [])
    (hres : (s.fn H (ds ++ gs)).results = [.lit (.bool true)]) (hargs : (s.fn H (ds ++ gs)).args = ds) (hvars : (s.fn H (ds ++ gs)).vars = []) (hr : f.resultTypes = #[tb]) (htb : X.P.underlying tb = some .bool) :
    Calls X.P n ⟨args⟩ W fun e W' => ∃ v, e = .returned v ∧ s.post enc X.P f false true false false W ⟨args⟩ v W' :=
  (hc.2 W (phi0 W) args (rel0 hΓ) hx).mono fun e W' ⟨v, av, H', φ', h1, h2, h3, h4⟩ => by
    subst h3
    cases h2
    exact ⟨_, h1, post_true hW hl ht hv hres hargs hvars hr htb h4.below⟩

end Go.AL

/-
  AL, part u: what is owned may be let go, or be frozen: a row becomes a slice that is never written again.
-/
set_option linter.unusedSimpArgs false
set_option linter.unusedVariables false
namespace Go.AL
open Go

def Snap (X : Ctx) (as : List AV) (H : AHeap) (bs : List AV) (K : AHeap) : Prop :=
  ∀ w φ xs, Rel X w φ H → VRs (Fz w φ) (Sh w) xs as → ∃ φ', VRs (Fz w φ') (Sh w) xs bs ∧ Out X H w φ K w φ'

section
variable {X : Ctx} {H K L : AHeap} {as bs cs : List AV}

theorem Snap.trans (h : Snap X as H bs K) (k : Snap X bs K cs L) : Snap X as H cs L := fun w φ xs hr hx => by
  obtain ⟨φ1, h1, h2⟩ := h w φ xs hr hx
  obtain ⟨φ2, k1, k2⟩ := k w φ1 xs h2.rel h1
  exact ⟨φ2, k1, h2.trans k2⟩

theorem Snap.drop (hs : ∀ b o, K.get b = some o → H.get b = some o) : Snap X as H as K := fun w φ xs hr hx => ⟨φ, hx, (Out.refl hr).forget hs⟩

theorem phi_row {w : World} {φ : Nat → Nat} {b sz : Nat} {T : TypeId} {sn : Bool} {es : List (List AV)} (hr : Rel X w φ H) (hb : H.get b = some (.row T sz sn es)) :
    Out X H w φ (H.put b (.row T sz true es)) w (fun c => if c = b then es.length * sz else φ c) ∧ ERs (Fz w (fun c => if c = b then es.length * sz else φ c)) (Sh w) ⟨b, 0, none⟩ sz 0 es := by
  have ho := hr.obj b _ hb
  obtain ⟨h1, h2, arr, vs, rest, h3, h4, h5, h6⟩ := ho
  have hle : φ b ≤ es.length * sz := by
    cases sn with
    | true => simpa using h1
    | false => simp at h1; rw [h1]; exact Nat.zero_le _
  have hFz : ∀ ad u, Fz w φ ad u → Fz w (fun c => if c = b then es.length * sz else φ c) ad u := fun ad u ⟨k1, k2⟩ => ⟨k1, by
    simp only
    split
    · rename_i e; rw [e] at k2; omega
    · exact k2⟩
  have hlt := hr.lt hb
  refine ⟨⟨⟨rfl, rfl, rfl, Nat.le_refl _, hFz, fun _ _ h => h, fun c hc hn => ⟨rfl, ?_⟩⟩, ⟨fun c o hc => ?_, fun c hc => ?_, X.mono _ _ hFz hr.env⟩, fun c hc => ?_, fun _ => Nat.le_refl _⟩, ?_⟩
  · rw [if_neg]
    rintro rfl
    rw [hb] at hn; cases hn
  · rw [AHeap.get_put] at hc
    split at hc
    · rename_i e; subst e; cases hc
      exact ⟨by simp, h2, arr, vs, rest, h3, h4, h5.mono hFz fun _ _ h => h, h6⟩
    · rename_i e
      exact (hr.obj c o hc).keep rfl (if_neg e) hFz fun _ _ h => h
  · show (if c = b then es.length * sz else φ c) = 0
    rw [if_neg (by omega)]
    exact hr.lim c hc
  · left
    rw [AHeap.get_put] at hc
    split at hc
    · rename_i e; subst e; rw [hb]; simp
    · exact hc
  · have h5' := h5.mono hFz (fun (_ _ : Nat) h => h)
    have hlen : es.flatten.length = es.length * sz := flatten_len h2
    refine ERs.of_get _ _ fun k e hk => ⟨h2 e (List.mem_of_getElem? hk), CRs.of_get _ _ fun i a hi => ?_⟩
    have hklt : k < es.length := (List.getElem?_eq_some_iff.1 hk).1
    have hel : e.length = sz := h2 e (List.mem_of_getElem? hk)
    have hilt : i < sz := by rw [← hel]; exact (List.getElem?_eq_some_iff.1 hi).1
    have hget : es.flatten[k * sz + i]? = some a := flatten_get h2 k i e a hk hi
    obtain ⟨u, g1, g2⟩ := h5'.get (k * sz + i) a hget
    have hcell : w.cell? ⟨b, k * sz + i, none⟩ = some u := by
      rw [cell_row h3]
      have : arr.toList[k * sz + i]? = some u := by rw [h4, List.getElem?_append_left (List.getElem?_eq_some_iff.1 g1).1]; exact g1
      simpa using this
    refine ⟨u, ⟨?_, ?_⟩, g2⟩
    · rw [add_none]; simpa using hcell
    · rw [add_none]
      simp only [if_true, Nat.zero_add]
      calc k * sz + i < k * sz + sz := by omega
        _ = (k + 1) * sz := by rw [Nat.succ_mul]
        _ ≤ es.length * sz := Nat.mul_le_mul_right _ hklt

mutual
def AV.snap (b sz : Nat) (es : List (List AV)) : AV → AV
  | .row c z n => if c = b then (if z = sz ∧ n ≤ es.length then .sl false (es.take n) else .top) else .row c z n
  | .agg cs => .agg (AV.snaps b sz es cs)
  | .tup cs => .tup (AV.snaps b sz es cs)
  | .sl t xs => .sl t (AV.snapss b sz es xs)
  | .fp cs => .fp (AV.snaps b sz es cs)
  | .fn f as bs => .fn f (AV.snaps b sz es as) (AV.snaps b sz es bs)
  | .ifc t x => .ifc t (AV.snap b sz es x)
  | .whn c x => .whn c (AV.snap b sz es x)
  | .v x => .v x
  | .s l => .s l
  | .rp c z i o => .rp c z i o
  | .vw c z o n => if c = b then (if z = sz ∧ o + n ≤ es.length then .sl false ((es.take (o + n)).drop o) else .top) else .vw c z o n
  | .top => .top
def AV.snaps (b sz : Nat) (es : List (List AV)) : List AV → List AV
  | [] => []
  | x :: xs => AV.snap b sz es x :: AV.snaps b sz es xs
def AV.snapss (b sz : Nat) (es : List (List AV)) : List (List AV) → List (List AV)
  | [] => []
  | x :: xs => AV.snaps b sz es x :: AV.snapss b sz es xs
end

theorem snaps_length (b sz : Nat) (es : List (List AV)) : ∀ l : List AV, (AV.snaps b sz es l).length = l.length
  | [] => rfl
  | _ :: l => by simp [AV.snaps, snaps_length b sz es l]
theorem snapss_length (b sz : Nat) (es : List (List AV)) : ∀ l : List (List AV), (AV.snapss b sz es l).length = l.length
  | [] => rfl
  | _ :: l => by simp [AV.snapss, snapss_length b sz es l]

section
variable {F F' : Addr → Value → Prop} {S : Nat → Nat → Prop} {b sz : Nat} {es : List (List AV)}
mutual
theorem VR.snap (hF : ∀ a u, F a u → F' a u) (hE : ERs F' S ⟨b, 0, none⟩ sz 0 es) {x : Value} {a : AV} : VR F S x a → VR F' S x (AV.snap b sz es a)
  | .v x => .v x
  | .s b => .s b
  | .agg h => .agg (VRs.snap hF hE h)
  | .tup h => .tup (VRs.snap hF hE h)
  | .slnil t => .slnil t
  | .sl (es := xs) h hc ht => by
    simp only [AV.snap]
    rw [← snapss_length b sz es xs]
    exact .sl (ERs.snap hF hE h) (by rw [snapss_length]; exact hc) (by rw [snapss_length]; exact ht)
  | .fp h => .fp (CRs.snap hF hE h)
  | .row (b := c) (sz := z) (n := n) (cap := cap) hs hc hn => by
    simp only [AV.snap]
    split
    · rename_i e; subst e
      split
      · rename_i hz
        obtain ⟨rfl, hz⟩ := hz
        have h1 : (es.take n).length = n := by rw [List.length_take]; omega
        have h2 := hE.slice 0 n
        simp only [Nat.zero_mul, List.drop_zero] at h2
        rw [add_none] at h2
        have h3 : VR F' S (.slice (some ⟨c, 0, none⟩) (es.take n).length cap) (.sl false (es.take n)) := .sl h2 (by rw [h1]; exact hn) (fun h => by cases h)
        rw [h1] at h3
        exact h3
      · exact .top _
    · exact .row hs hc hn
  | .rp => .rp
  | .vw (b := c) (sz := z) (off := o) (n := n) (cap := cap) (p := p) hs hc hn hp => by
    simp only [AV.snap]
    split
    · rename_i e; subst e
      split
      · rename_i hz
        obtain ⟨rfl, hz⟩ := hz
        have h1 : ((es.take (o + n)).drop o).length = n := by rw [List.length_drop, List.length_take]; omega
        have h3 : VR F' S (.slice (some ⟨c, p, none⟩) ((es.take (o + n)).drop o).length cap) (.sl false ((es.take (o + n)).drop o)) := by
          by_cases hn0 : n = 0
          · subst hn0
            have e : (es.take (o + 0)).drop o = [] := List.length_eq_zero_iff.1 h1
            rw [e]
            exact .sl (sz := z) .nil (Nat.zero_le _) (fun h => by cases h)
          · rw [hp (by omega)]
            have h2 := hE.slice o (o + n)
            rw [add_none, Nat.zero_add] at h2
            exact .sl h2 (by rw [h1]; exact hn) (fun h => by cases h)
        rw [h1] at h3
        exact h3
      · exact .top _
    · exact .vw hs hc hn hp
  | .fn h h' => .fn (VRs.snap hF hE h) (VRs.snap hF hE h')
  | .ifc h => .ifc (VR.snap hF hE h)
  | .whnT h => .whnT (VR.snap hF hE h)
  | .whnF a => .whnF _
  | .top x => .top x
theorem VRs.snap (hF : ∀ a u, F a u → F' a u) (hE : ERs F' S ⟨b, 0, none⟩ sz 0 es) {xs : List Value} {as : List AV} : VRs F S xs as → VRs F' S xs (AV.snaps b sz es as)
  | .nil => .nil
  | .cons h hs => .cons (VR.snap hF hE h) (VRs.snap hF hE hs)
theorem CRs.snap (hF : ∀ a u, F a u → F' a u) (hE : ERs F' S ⟨b, 0, none⟩ sz 0 es) {ad : Addr} {j : Nat} {as : List AV} : CRs F S ad j as → CRs F' S ad j (AV.snaps b sz es as)
  | .nil => .nil
  | .cons h hv hs => .cons (hF _ _ h) (VR.snap hF hE hv) (CRs.snap hF hE hs)
theorem ERs.snap (hF : ∀ a u, F a u → F' a u) (hE : ERs F' S ⟨b, 0, none⟩ sz 0 es) {ad : Addr} {z i : Nat} {xs : List (List AV)} : ERs F S ad z i xs → ERs F' S ad z i (AV.snapss b sz es xs)
  | .nil => .nil
  | .cons hl hc hs => .cons (by rw [snaps_length]; exact hl) (CRs.snap hF hE hc) (ERs.snap hF hE hs)
end
end

theorem Snap.row {b sz : Nat} {T : TypeId} {sn : Bool} {es : List (List AV)} (hb : H.get b = some (.row T sz sn es)) : Snap X as H (AV.snaps b sz es as) (H.put b (.row T sz true es)) := fun w φ xs hr hx => by
  obtain ⟨h1, h2⟩ := phi_row hr hb
  exact ⟨_, hx.snap h1.step.fz h2, h1⟩

theorem ACall.pre {f : FuncId} {Q : AV → AHeap → Prop} (hs : Snap X as H bs K) (h : ACall X f bs K Q) : ACall X f as H Q := ⟨h.1, fun w φ xs hr hx => by
  obtain ⟨φ', h1, h2⟩ := hs w φ xs hr hx
  exact (h.2 w φ' xs h2.rel h1).mono fun e w' ⟨v, av, H', φ1, e1, k1, k2, k3⟩ => ⟨v, av, H', φ1, e1, k1, k2, h2.trans k3⟩⟩

theorem ACall.post {f : FuncId} {Q : AV → AHeap → Prop} (h : ACall X f as H fun a K => ∃ b L, Snap X [a] K [b] L ∧ Q b L) : ACall X f as H Q := ⟨h.1, fun w φ xs hr hx =>
  (h.2 w φ xs hr hx).mono fun e w' ⟨v, av, H', φ1, e1, k1, ⟨b, L, k2, k4⟩, k3⟩ => by
    obtain ⟨φ', h1, h2⟩ := k2 w' φ1 [v] k3.rel (.cons k1 .nil)
    cases h1 with
    | cons h1 _ => exact ⟨v, b, L, φ', e1, h1, k4, k3.trans h2⟩⟩

def AFr.snap (b sz : Nat) (es : List (List AV)) : AFr → AFr
  | [] => []
  | (t, a) :: fr => (t, AV.snap b sz es a) :: AFr.snap b sz es fr

theorem AFr.get_snap (b sz : Nat) (es : List (List AV)) (t : Nat) : ∀ fr : AFr, AFr.get t (AFr.snap b sz es fr) = AV.snap b sz es (AFr.get t fr)
  | [] => by simp [AFr.snap, AFr.get, AV.snap]
  | (d, a) :: fr => by simp only [AFr.snap, AFr.get]; split <;> first | rfl | exact AFr.get_snap b sz es t fr

theorem AWp.snap {N : NR} {c : Code} {Q : Exit → AFr → AHeap → Prop} {fr : AFr} {b sz : Nat} {T : TypeId} {sn : Bool} {es : List (List AV)} (hb : H.get b = some (.row T sz sn es)) (h : AWp X N c Q (AFr.snap b sz es fr) (H.put b (.row T sz true es))) : AWp X N c Q fr H := fun a w φ H0 w0 φ0 hf hd hr ho => by
  obtain ⟨h1, h2⟩ := phi_row hr hb
  exact h a w _ H0 w0 φ0 ⟨hf.size, fun t => by rw [AFr.get_snap]; exact (hf.at_ t).snap h1.step.fz h2⟩ (hd.out h1) h1.rel (ho.trans h1)

theorem AWp.drop {N : NR} {c : Code} {Q : Exit → AFr → AHeap → Prop} {fr : AFr} (hs : ∀ b o, K.get b = some o → H.get b = some o) (h : AWp X N c Q fr K) : AWp X N c Q fr H := fun a w φ H0 w0 φ0 hf hd hr ho => by
  have h1 := (Out.refl hr).forget hs
  exact h a w φ H0 w0 φ0 hf (hd.forget hs) h1.rel (ho.trans h1)

end
end Go.AL

/-
  AL, part v: loops over a state; layouts.
-/
set_option linter.unusedSimpArgs false
set_option linter.unusedVariables false
namespace Go.AL
open Go

section
variable {X : Ctx} {N : NR} {fr : AFr} {H : AHeap} {Q : Exit → AFr → AHeap → Prop}

def getAll (ts : List Nat) (fr : AFr) : List AV := ts.map fun t => AFr.get t fr

theorem get_zip (ts : List Nat) (fr : AFr) : ∀ (l : List Nat), ∀ t, AFr.get t (l.zip (getAll l fr)) = if t ∈ l then AFr.get t fr else .top
  | [], t => by simp [getAll, AFr.get]
  | d :: l, t => by
    have ih := get_zip ts fr l t
    simp only [getAll, List.map_cons, List.zip_cons_cons, AFr.get] at ih ⊢
    by_cases h : d = t
    · subst h; simp
    · rw [if_neg h, ih]
      simp [Ne.symm h]

theorem AWp_loop_s {σ : Type} {c : Code} (ts : List Nat) (vals : σ → List AV) (hp : σ → AHeap) (meas : σ → Nat) (Inv : σ → Prop) (s0 : σ) (h0 : Inv s0) (hfr : getAll ts fr = vals s0) (hH : H = hp s0)
    (round : ∀ s, Inv s → AWp X N c (AThen (fun fr' H' => ∃ s', meas s' < meas s ∧ Inv s' ∧ getAll ts fr' = vals s' ∧ H' = hp s') Q) (ts.zip (vals s)) (hp s)) : AWp X N (.loop c) Q fr H := by
  refine AWp_loop (fun n fr H => ∃ s, n = meas s ∧ Inv s ∧ getAll ts fr = vals s ∧ H = hp s) ⟨s0, rfl, h0, hfr, hH⟩ ?_
  rintro n fr H ⟨s, rfl, hI, hf, rfl⟩
  refine AWp_weaken ((round s hI).mono fun e fr H h => ?_) (fun F S x hx t => ?_) (fun _ _ h => h)
  · cases e with
    | normal => exact let ⟨s', h1, h2, h3, h4⟩ := h; ⟨meas s', h1, s', rfl, h2, h3, h4⟩
    | _ => exact h
  · rw [← hf, get_zip ts]
    split
    · exact hx t
    · exact .top _

theorem AWp_cut {c : Code} (ts : List Nat) {vs : List AV} (hv : getAll ts fr = vs) (h : AWp X N c Q (ts.zip vs) H) : AWp X N c Q fr H :=
  AWp_weaken h (fun F S x hx t => by
    rw [← hv, get_zip ts]
    split
    · exact hx t
    · exact .top _) (fun _ _ h => h)

end

def lay (P : Program) (T : TypeId) : Option (Bool × Nat) := match P.underlying T, P.info? T with
  | some _, some i => some (aggT P T, i.size)
  | _, _ => none
theorem ldAt_eq (P : Program) (T : TypeId) (cs : List AV) : ldAt P T cs = match lay P T with
  | some (true, n) => if n ≤ cs.length then some (.agg (cs.take n)) else none
  | some (false, _) => cs.head?
  | none => none := by
  unfold ldAt lay
  cases P.underlying T <;> cases P.info? T <;> simp
  cases aggT P T <;> simp

end Go.AL

/-
  AL, part w: what a type is, in short: all that the laws ask of a program's types.
-/
set_option linter.unusedSimpArgs false
set_option linter.unusedVariables false
namespace Go.AL
open Go

inductive TK where
  | bool
  | int (k : IntKind)
  | str
  | sl (e : TypeId) (sz : Option Nat)
  | arr (n : Nat) (e : Option (Nat × Bool))
  | st (fs : List (Option (Nat × Nat × Bool)))
  | ptr
  | map (k e : TypeId)
  | func
  | oth
  | no

def eTK (P : Program) (e : TypeId) : Option (Nat × Bool) := match P.info? e, P.underlying e with
  | some inf, some _ => some (inf.size, aggT P e)
  | _, _ => none

def tk (P : Program) (T : TypeId) : TK := match P.underlying T with
  | some .bool => .bool
  | some (.int k) => .int k
  | some .string => .str
  | some (.slice e) => .sl e ((P.info? e).map (·.size))
  | some (.array n e) => .arr n (eTK P e)
  | some (.struct fs) => .st (fs.toList.map fun f => match P.info? f.type, P.underlying f.type with
    | some inf, some _ => some (f.offset, inf.size, aggT P f.type)
    | _, _ => none)
  | some (.pointer _) => .ptr
  | some (.map k e) => .map k e
  | some (.func _ _ _) => .func
  | some _ => .oth
  | none => .no

def lenK (H : AHeap) (k : TK) (x : AV) : Option AV := match k, x with
  | .str, .s l => some (.v (.int .i64 l.length))
  | .sl _ _, .sl _ es => some (.v (.int .i64 es.length))
  | .sl _ _, .row _ _ n => some (.v (.int .i64 n))
  | .sl _ _, .vw _ _ _ n => some (.v (.int .i64 n))
  | .arr n _, _ => some (.v (.int .i64 n))
  | .map _ _, .v (.map none) => some (.v (.int .i64 0))
  | .map _ _, .v (.map (some b)) => match H.get b with
    | some (.smap es) => some (.v (.int .i64 es.length))
    | some (.imap _ es) => some (.v (.int .i64 es.length))
    | _ => none
  | _, _ => none

theorem lenV_k (P : Program) (H : AHeap) (T : TypeId) (x : AV) : lenV P H T x = lenK H (tk P T) x := by
  unfold lenV tk
  cases hu : P.underlying T with
  | none => cases x <;> rfl
  | some d =>
    cases d <;> try (cases x <;> rfl)
    cases x <;> try rfl
    rename_i v
    cases v <;> try rfl
    rename_i m
    cases m <;> rfl

def indexAddrK (k : TK) (x ix : AV) : Option AV := match ix with
  | .v (.int _ i) => if 0 ≤ i then
      match k, x with
      | .sl _ (some sz), .sl _ es => match es[i.toNat]? with
        | some c => if c.length = sz then some (.fp c) else none
        | none => none
      | .sl _ (some s), .row b sz n => if i < n ∧ sz = s then some (.rp b sz i.toNat 0) else none
      | .sl _ (some s), .vw b sz off n => if i < n ∧ sz = s then some (.rp b sz (off + i.toNat) 0) else none
      | .arr n (some (sz, _)), x => if i < n then x.addOff (i.toNat * sz) sz else none
      | _, _ => none
    else none
  | _ => none

theorem indexAddrV_k {P : Program} {T : TypeId} {x ix : AV} {k : TK} (h : tk P T = k) {av : AV} (hk : indexAddrK k x ix = some av) : indexAddrV P T x ix = some av := by
  subst h
  unfold indexAddrV
  unfold indexAddrK tk eTK at hk
  split at hk <;> try (cases hk; done)
  rename_i k' i
  simp only
  split at hk
  · rename_i h0
    rw [if_pos h0]
    cases hu : P.underlying T with
    | none => simp [hu] at hk
    | some d =>
      cases d <;> simp only [hu] at hk ⊢ <;> try (simp at hk; done)
      · rename_i e
        cases hi : P.info? e with
        | none => simp [hi] at hk
        | some inf =>
          simp only [hi, Option.map_some] at hk ⊢
          cases x <;> first | exact hk | (simp at hk; done)
      · rename_i n e
        cases hi : P.info? e with
        | none => simp [hi] at hk
        | some inf =>
          cases hue : P.underlying e with
          | none => simp [hi, hue] at hk
          | some u => simp only [hi, hue] at hk ⊢; exact hk
  · cases hk

def indexK (k : TK) (x ix : AV) : Option AV := match ix with
  | .v (.int _ i) => if 0 ≤ i then
      match k, x with
      | .str, .s l => (l[i.toNat]?).map fun c => .v (.int .u8 c.toNat)
      | .arr n (some (sz, ag)), .agg cs => if i < n then (if ag then (if i.toNat * sz + sz ≤ cs.length then some (.agg ((cs.drop (i.toNat * sz)).take sz)) else none) else cs[i.toNat * sz]?) else none
      | _, _ => none
    else none
  | _ => none

theorem indexV_k {P : Program} {T : TypeId} {x ix : AV} {k : TK} (h : tk P T = k) {av : AV} (hk : indexK k x ix = some av) : indexV P T x ix = some av := by
  subst h
  unfold indexV
  unfold indexK tk eTK at hk
  split at hk <;> try (cases hk; done)
  rename_i k' i
  simp only
  split at hk
  · rename_i h0
    rw [if_pos h0]
    cases hu : P.underlying T with
    | none => simp [hu] at hk
    | some d =>
      cases d <;> simp only [hu] at hk ⊢ <;> try (simp at hk; done)
      · cases x <;> first | exact hk | (simp at hk; done)
      · rename_i n e
        cases hi : P.info? e with
        | none => simp [hi] at hk
        | some inf =>
          cases hue : P.underlying e with
          | none => simp [hi, hue] at hk
          | some u =>
            simp only [hi, hue] at hk
            cases x <;> try (cases hk; done)
            simp only [hi, hue]
            exact hk
  · cases hk

def fieldAddrK (k : TK) (i : Nat) (x : AV) : Option AV := match k with
  | .st fs => match fs[i]? with
    | some (some (off, size, _)) => if size = 0 then none else x.addOff off size
    | _ => none
  | _ => none
def fieldValK (k : TK) (i : Nat) (x : AV) : Option AV := match k, x with
  | .st fs, .agg cs => match fs[i]? with
    | some (some (off, size, true)) => if off + size ≤ cs.length then some (.agg ((cs.drop off).take size)) else none
    | some (some (off, _, false)) => cs[off]?
    | _ => none
  | _, _ => none

theorem fieldV_k (P : Program) (T : TypeId) (i : Nat) : (fieldV P T i).map (fun p => (p.1, p.2.2.1, p.2.2.2)) = match tk P T with
  | .st fs => (fs[i]?).bind id
  | _ => none := by
  unfold fieldV tk
  cases hu : P.underlying T with
  | none => rfl
  | some d =>
    cases d <;> try rfl
    rename_i fs
    simp only [List.getElem?_map, Array.getElem?_toList]
    cases hf : fs[i]? with
    | none => simp
    | some f =>
      simp only [Option.map_some]
      cases P.info? f.type <;> cases P.underlying f.type <;> rfl

theorem fieldAddrV_k (P : Program) (T : TypeId) (i : Nat) (x : AV) : fieldAddrV P T i x = fieldAddrK (tk P T) i x := by
  have h := fieldV_k P T i
  unfold fieldAddrV fieldAddrK
  cases hf : fieldV P T i with
  | none =>
    rw [hf] at h
    cases hk : tk P T <;> try rfl
    rename_i fs
    rw [hk] at h
    simp only at h ⊢
    cases hq : fs[i]? with
    | none => rfl
    | some o => cases o with
      | none => rfl
      | some p => rw [hq] at h; cases h
  | some p =>
    obtain ⟨off, t, sz, ag⟩ := p
    rw [hf] at h
    cases hk : tk P T <;> rw [hk] at h <;> try (cases h; done)
    rename_i fs
    simp only [Option.map_some] at h ⊢
    cases hq : fs[i]? with
    | none => rw [hq] at h; cases h
    | some o => cases o with
      | none => rw [hq] at h; cases h
      | some p => rw [hq] at h; cases h; rfl

theorem fieldValV_k (P : Program) (T : TypeId) (i : Nat) (x : AV) : fieldValV P T i x = fieldValK (tk P T) i x := by
  have h := fieldV_k P T i
  unfold fieldValV fieldValK
  cases x <;> try (cases hk : tk P T <;> rfl)
  rename_i cs
  cases hf : fieldV P T i with
  | none =>
    rw [hf] at h
    cases hk : tk P T <;> try rfl
    rename_i fs
    rw [hk] at h
    simp only at h ⊢
    cases hq : fs[i]? with
    | none => rfl
    | some o => cases o with
      | none => rfl
      | some p => rw [hq] at h; cases h
  | some p =>
    obtain ⟨off, t, sz, ag⟩ := p
    rw [hf] at h
    cases hk : tk P T <;> rw [hk] at h <;> try (cases h; done)
    rename_i fs
    simp only [Option.map_some] at h ⊢
    cases hq : fs[i]? with
    | none => rw [hq] at h; cases h
    | some o => cases o with
      | none => rw [hq] at h; cases h
      | some p => rw [hq] at h; cases h; cases ag <;> rfl

def convK (d : TK) (x : AV) : Option AV := match d, x with
  | .int k, .v (.int _ n) => some (.v (.int k (k.wrap n)))
  | .str, .s l => some (.s l)
  | _, _ => none

theorem convV_k {P : Program} {s d : TypeId} {x : AV} (h : (P.underlying s).isSome = true) : convV P s d x = convK (tk P d) x := by
  unfold convV
  cases hs : P.underlying s with
  | none => rw [hs] at h; cases h
  | some u =>
    unfold tk
    cases hd : P.underlying d with
    | none => rfl
    | some u' =>
      cases u' <;> try rfl
      · cases x <;> try rfl
        rename_i v
        cases v <;> rfl
      · cases x <;> rfl

def plainEqK (k : TK) (x y : AV) : Option Bool := match k with
  | .bool => match x, y with
    | .v (.bool a), .v (.bool b) => some (decide (a = b))
    | _, _ => none
  | .int _ => match x, y with
    | .v (.int j a), .v (.int k b) => if j = k then some (decide (a = b)) else none
    | _, _ => none
  | .str => match x, y with
    | .s a, .s b => some (decide (a = b))
    | _, _ => none
  | .ptr => match x, y with
    | x, .v (.pointer none) => ptrNil x
    | .v (.pointer none), y => ptrNil y
    | _, _ => none
  | .map _ _ => match x, y with
    | x, .v (.map none) => mapNil x
    | .v (.map none), y => mapNil y
    | _, _ => none
  | .func => match x, y with
    | x, .v .nilFunc => funNil x
    | .v .nilFunc, y => funNil y
    | _, _ => none
  | _ => none

theorem plainEq_k (P : Program) (T : TypeId) (x y : AV) : plainEq P T x y = plainEqK (tk P T) x y := by
  unfold plainEq tk
  cases hu : P.underlying T with
  | none => rfl
  | some d => cases d <;> rfl

def sz? (P : Program) (T : TypeId) : Option Nat := (P.info? T).map (·.size)

def storeK (H : AHeap) (s : Option Nat) (a x : AV) : Option AHeap := match x.cells, s with
  | some vs, some sz0 => if vs.length = sz0 ∧ vs.all AV.one then
      match a with
      | .v (.pointer (some ⟨b, off, none⟩)) => match H.get b with
        | some (.box T0 cs) => if off + vs.length ≤ cs.length then some (H.put b (.box T0 (putAt off vs cs))) else none
        | _ => none
      | .rp b sz k o => match H.get b with
        | some (.row T0 sz' false es) => match es[k]? with
          | some e => if sz = sz' ∧ o + vs.length ≤ sz then some (H.put b (.row T0 sz false (es.set k (putAt o vs e)))) else none
          | none => none
        | _ => none
      | _ => none
    else none
  | _, _ => none

theorem storeV_k (P : Program) (H : AHeap) (T : TypeId) (a x : AV) : storeV P H T a x = storeK H (sz? P T) a x := by
  unfold storeV storeK sz?
  cases x.cells <;> cases P.info? T <;> rfl

def mgetK (H : AHeap) (k : TK) (x ix : AV) : Option (Option AV) := match k with
  | .str => match x, ix with
    | .v (.map none), .s _ => some none
    | .v (.map (some b)), .s l => match H.get b with
      | some (.smap es) => some (kfind l es)
      | _ => none
    | _, _ => none
  | .int k' => match x, ix with
    | .v (.map none), .v (.int k _) => if k = k' then some none else none
    | .v (.map (some b)), .v (.int k n) => if k = k' then match H.get b with
      | some (.imap k'' es) => if k = k'' then some (kfind n es) else none
      | some (.kmap _ _ ks vs) => (unI k ks vs).map (kfind n)
      | _ => none
      else none
    | _, _ => none
  | _ => none

theorem tk_str {P : Program} {T : TypeId} (h : tk P T = .str) : P.underlying T = some .string := by
  unfold tk at h
  cases hu : P.underlying T with
  | none => rw [hu] at h; cases h
  | some d => rw [hu] at h; cases d <;> first | rfl | cases h
theorem tk_int {P : Program} {T : TypeId} {k : IntKind} (h : tk P T = .int k) : P.underlying T = some (.int k) := by
  unfold tk at h
  cases hu : P.underlying T with
  | none => rw [hu] at h; cases h
  | some d => rw [hu] at h; cases d <;> first | (cases h; rfl) | cases h

theorem mgetV_k {P : Program} {H : AHeap} {kt : TypeId} {x ix : AV} {r : Option AV} (hk : mgetK H (tk P kt) x ix = some r) : mgetV P H kt x ix = some r := by
  unfold mgetK at hk
  split at hk
  · rename_i h
    unfold mgetV
    rw [tk_str h]
    split at hk
    · exact hk
    · exact hk
    · cases hk
  · rename_i k' h
    unfold mgetV
    rw [tk_int h]
    split at hk
    · exact hk
    · exact hk
    · cases hk
  · cases hk

def mapT (P : Program) (T : TypeId) : Option (TK × Option AV) := match P.underlying T with
  | some (.map kt et) => (P.info? et).map fun inf => (tk P kt, inf.zero.map AV.ofC)
  | _ => none

def lookupK (H : AHeap) (m : Option (TK × Option AV)) (x ix : AV) (ok : Bool) : Option AV := match m with
  | some (k, z) => match mgetK H k x ix with
    | some (some a) => some (if ok then .tup [a, .v (.bool true)] else a)
    | some none => match z with
      | some z => some (if ok then .tup [z, .v (.bool false)] else z)
      | none => none
    | none => none
  | none => none

theorem lookupV_k {P : Program} {H : AHeap} {T : TypeId} {x ix : AV} {ok : Bool} {m : Option (TK × Option AV)} (h : mapT P T = m) {av : AV} (hk : lookupK H m x ix ok = some av) : lookupV P H T x ix ok = some av := by
  subst h
  unfold lookupK mapT at hk
  unfold lookupV
  cases hu : P.underlying T with
  | none => rw [hu] at hk; simp at hk
  | some d =>
    rw [hu] at hk
    cases d <;> try (simp at hk; done)
    rename_i kt et
    simp only at hk ⊢
    cases hi : P.info? et with
    | none => rw [hi] at hk; simp at hk
    | some inf =>
      rw [hi] at hk
      simp only [Option.map_some] at hk
      cases hm : mgetK H (tk P kt) x ix with
      | none => rw [hm] at hk; simp at hk
      | some r =>
        rw [mgetV_k hm]
        rw [hm] at hk
        cases r with
        | some a => exact hk
        | none => cases hz : inf.zero with
          | none => rw [hz] at hk; simp at hk
          | some z =>
            rw [hz] at hk
            simp only [hz]
            exact hk

def mapputK (H : AHeap) (m : Option (TK × Option AV)) (x k y : AV) : Option AHeap := match m with
  | some (.str, _) => match x, k with
    | .v (.map (some b)), .s l => match H.get b with
      | some (.smap es) => some (H.put b (.smap (kput l y es)))
      | _ => none
    | _, _ => none
  | some (.int j0, _) => match x, k with
    | .v (.map (some b)), .v (.int j n) => match H.get b with
      | some (.imap j' es) => if j = j' ∧ j = j0 then some (H.put b (.imap j (kput n y es))) else none
      | _ => none
    | _, _ => none
  | _ => none

theorem mapT_inv {P : Program} {T : TypeId} {k : TK} {z : Option AV} (h : mapT P T = some (k, z)) : ∃ kt et, P.underlying T = some (.map kt et) ∧ tk P kt = k := by
  unfold mapT at h
  cases hu : P.underlying T with
  | none => rw [hu] at h; cases h
  | some d =>
    rw [hu] at h
    cases d <;> try (cases h; done)
    rename_i kt et
    simp only [Option.map_eq_some_iff] at h
    obtain ⟨inf, _, h⟩ := h
    cases h
    exact ⟨kt, et, rfl, rfl⟩

theorem mapputV_k {P : Program} {H : AHeap} {T : TypeId} {m k x : AV} {mt : Option (TK × Option AV)} (h : mapT P T = mt) {H' : AHeap} (hk : mapputK H mt m k x = some H') : mapputV P H T m k x = some H' := by
  unfold mapputK at hk
  split at hk
  · rename_i z
    obtain ⟨kt, et, h1, h2⟩ := mapT_inv h
    have h3 := tk_str h2
    unfold mapputV
    rw [h1]
    split at hk
    · rename_i b l
      simp only [h3]
      split at hk
      · rename_i es hb; simp only [hb]; exact hk
      · cases hk
    · cases hk
  · rename_i j0 z
    obtain ⟨kt, et, h1, h2⟩ := mapT_inv h
    have h3 := tk_int h2
    unfold mapputV
    rw [h1]
    split at hk
    · rename_i b j n
      simp only [h3]
      split at hk
      · rename_i es hb; simp only [hb]; exact hk
      · cases hk
    · cases hk
  · cases hk

theorem tk_sl {P : Program} {T e : TypeId} {s : Option Nat} (h : tk P T = .sl e s) : P.underlying T = some (.slice e) ∧ (P.info? e).map (·.size) = s := by
  unfold tk at h
  cases hu : P.underlying T with
  | none => rw [hu] at h; cases h
  | some d => rw [hu] at h; cases d <;> first | (cases h; exact ⟨rfl, rfl⟩) | cases h

def sliceK (k : TK) (x : AV) (lo hi mx : Option AV) : Option AV := match k, x with
  | .str, .s l => match boundV lo 0, boundV hi l.length, mx with
    | some a, some b, none => if a ≤ b ∧ b ≤ l.length then some (.s ((l.take b).drop a)) else none
    | _, _, _ => none
  | .sl _ (some sz), .sl t es => match boundV lo 0, boundV hi es.length, mx with
    | some a, some b, none => if a ≤ b ∧ b ≤ es.length ∧ es.all (fun c => c.length == sz) then some (.sl (t && (b == es.length)) ((es.take b).drop a)) else none
    | some a, some b, some m => match hi, boundV (some m) 0 with
      | some _, some c => if a ≤ b ∧ b = c ∧ b ≤ es.length ∧ es.all (fun c => c.length == sz) then some (.sl true ((es.take b).drop a)) else none
      | _, _ => none
    | _, _, _ => none
  | .sl _ (some s), .row b sz n => match lo, mx, hi with
    | none, none, some (.v (.int _ i)) => if 0 ≤ i ∧ i ≤ n then some (.row b sz i.toNat) else none
    | some l, none, hi => match boundV (some l) 0, boundV hi n with
      | some a, some c => if a ≤ c ∧ c ≤ n ∧ sz = s then some (.vw b sz a (c - a)) else none
      | _, _ => none
    | _, _, _ => none
  | .sl _ (some s), .vw b sz off n => match boundV lo 0, mx, boundV hi n with
    | some a, none, some c => if a ≤ c ∧ c ≤ n ∧ sz = s then some (.vw b sz (off + a) (c - a)) else none
    | _, _, _ => none
  | _, _ => none

theorem sliceV_k {P : Program} {T : TypeId} {x : AV} {lo hi mx : Option AV} {k : TK} (h : tk P T = k) {av : AV} (hk : sliceK k x lo hi mx = some av) : sliceV P T x lo hi mx = some av := by
  unfold sliceK at hk
  split at hk
  · unfold sliceV
    rw [tk_str h]
    exact hk
  · rename_i e sz t es
    obtain ⟨h1, h2⟩ := tk_sl h
    rw [Option.map_eq_some_iff] at h2
    obtain ⟨inf, h2, rfl⟩ := h2
    unfold sliceV
    simp only [h1, h2]
    split at hk
    · rename_i a b ha hb; simp only [ha, hb]; exact hk
    · rename_i a b m ha hb
      simp only [ha, hb]
      split at hk
      · rename_i q c hq; simp only [hq]; exact hk
      · cases hk
    · cases hk
  · rename_i e sz b z n
    obtain ⟨h1, h2⟩ := tk_sl h
    rw [Option.map_eq_some_iff] at h2
    obtain ⟨inf, h2, rfl⟩ := h2
    unfold sliceV
    simp only [h1, h2]
    split at hk
    · exact hk
    · exact hk
    · cases hk
  · rename_i e sz b z off n
    obtain ⟨h1, h2⟩ := tk_sl h
    rw [Option.map_eq_some_iff] at h2
    obtain ⟨inf, h2, rfl⟩ := h2
    unfold sliceV
    simp only [h1, h2]
    split at hk
    · rename_i a c e1 e2; simp only [e1, e2]; exact hk
    · cases hk
  · cases hk

def buildT (P : Program) (T : TypeId) : Option (List AV × List (Nat × Nat)) := match zC P T, P.underlying T with
  | some z, some (.struct fs) => (fieldPlaces P fs.toList).map fun pl => (z, pl)
  | some z, some (.array n e) => (P.info? e).map fun inf => (z, (List.range n).map fun i => (i * inf.size, inf.size))
  | _, _ => none

end Go.AL

/-
  AL, part x: what a quiet operation gives, by the types in short.
-/
set_option linter.unusedSimpArgs false
set_option linter.unusedVariables false
namespace Go.AL
open Go

theorem fillA_mono {p q : Nat → Option (Nat × Nat)} (h : ∀ i x, p i = some x → q i = some x) : ∀ {parts : List (Nat × AV)} {cells r : List AV}, fillA p cells parts = some r → fillA q cells parts = some r
  | [], _, _, e => e
  | (i, v) :: rest, cells, r, e => by
    unfold fillA at e ⊢
    split at e
    · rename_i off size vs h1 h2
      rw [h i _ h1]
      simp only [h2]
      split at e
      · rename_i hc; rw [if_pos hc]; exact fillA_mono h e
      · cases e
    · cases e

def buildK (b : Option (List AV × List (Nat × Nat))) (parts : List (Nat × AV)) : Option AV := match b with
  | some (z, pl) => (fillA (fun i => pl[i]?) z parts).map .agg
  | none => none

theorem buildV_k {P : Program} {T : TypeId} {parts : List (Nat × AV)} {av : AV} (h : buildK (buildT P T) parts = some av) : buildV P T parts = some av := by
  unfold buildK buildT at h
  unfold buildV
  cases hz : zC P T with
  | none => rw [hz] at h; simp at h
  | some z =>
    rw [hz] at h
    cases hu : P.underlying T with
    | none => rw [hu] at h; simp at h
    | some d =>
      rw [hu] at h
      cases d <;> try (simp at h; done)
      · rename_i n e
        simp only at h ⊢
        cases hi : P.info? e with
        | none => rw [hi] at h; simp at h
        | some inf =>
          rw [hi] at h
          simp only [Option.map_some, Option.map_eq_some_iff] at h ⊢
          obtain ⟨r, h1, h2⟩ := h
          refine ⟨r, fillA_mono (fun i x hx => ?_) h1, h2⟩
          simp only [List.getElem?_map, Option.map_eq_some_iff] at hx
          obtain ⟨j, hj, hx⟩ := hx
          have := List.getElem?_eq_some_iff.1 hj
          obtain ⟨hlt, hj⟩ := this
          simp at hj
          subst hj
          rw [← hx]
      · rename_i fs
        simp only at h ⊢
        cases hp : fieldPlaces P fs.toList with
        | none => rw [hp] at h; simp at h
        | some pl => rw [hp] at h; simpa using h

def eqT (P : Program) (T : TypeId) : Option (List (Nat × TK)) := match P.underlying T with
  | some (.struct fs) => if P.stoodInHeld T || P.eqGuardType P.depth T then none else fs.toList.mapM fun f => if f.name = "_" then none else if aggT P f.type then none else some (f.offset, tk P f.type)
  | _ => none

def fieldsEqK : List (Nat × TK) → List AV → List AV → Option Bool
  | [], _, _ => some true
  | (off, k) :: fs, xs, ys => match xs[off]?, ys[off]? with
    | some x, some y => match plainEqK k x y, fieldsEqK fs xs ys with
      | some r, some s => some (r && s)
      | _, _ => none
    | _, _ => none

theorem fieldsEq_k {P : Program} {xs ys : List AV} : ∀ {fs : List Field} {l : List (Nat × TK)}, (fs.mapM fun f => if f.name = "_" then none else if aggT P f.type then none else some (f.offset, tk P f.type)) = some l → ∀ {r : Bool}, fieldsEqK l xs ys = some r → fieldsEq P fs xs ys = some r
  | [], l, h, r, hr => by
    simp at h; subst h; exact hr
  | f :: fs, l, h, r, hr => by
    simp only [List.mapM_cons, Option.bind_eq_bind, Option.bind_eq_some_iff] at h
    obtain ⟨p, h1, q, h2, h3⟩ := h
    cases h3
    split at h1
    · cases h1
    · rename_i hn
      split at h1
      · cases h1
      · rename_i ha
        cases h1
        unfold fieldsEq
        rw [if_neg hn]
        have ha' : aggT P f.type = false := by simpa using ha
        simp only [fieldsEqK] at hr
        rw [ha']
        cases hx : xs[f.offset]? with
        | none => rw [hx] at hr; simp at hr
        | some x => cases hy : ys[f.offset]? with
          | none => rw [hx, hy] at hr; simp at hr
          | some y =>
            rw [hx, hy] at hr
            simp only at hr ⊢
            rw [plainEq_k]
            cases hp : plainEqK (tk P f.type) x y with
            | none => rw [hp] at hr; simp at hr
            | some b =>
              rw [hp] at hr
              cases hq : fieldsEqK q xs ys with
              | none => rw [hq] at hr; simp at hr
              | some c =>
                rw [hq] at hr
                simp only [fieldsEq_k h2 hq]
                exact hr

def eqK (P : Program) (T : TypeId) (x y : AV) : Option Bool := match x, y with
  | .agg xs, .agg ys => match eqT P T with
    | some fs => fieldsEqK fs xs ys
    | none => none
  | x, y => plainEqK (tk P T) x y

theorem eqV_k {P : Program} {T : TypeId} {x y : AV} {r : Bool} (h : eqK P T x y = some r) : eqV P T x y = some r := by
  unfold eqK at h
  split at h
  · rename_i xs ys
    split at h
    · rename_i fs he
      unfold eqT at he
      unfold eqV
      simp only
      split at he
      · rename_i ff hu
        rw [hu]
        split at he
        · cases he
        · rename_i hg
          simp only
          rw [if_neg hg]
          exact fieldsEq_k he h
      · cases he
    · cases h
  · rename_i hn
    unfold eqV
    split
    · rename_i xs ys; exact absurd rfl (hn xs ys rfl)
    · rw [plainEq_k]; exact h

def binK (P : Program) (op : BinOp) (T : TypeId) (x y : AV) : Option AV := match x, y with
  | .v (.int k a), .v (.int k' b) => if k = k' then intV op k a b else shiftV op k a b
  | .s a, .s b => strV op a b
  | x, y => match op with
    | .eql => (eqK P T x y).map fun b => .v (.bool b)
    | .neq => (eqK P T x y).map fun b => .v (.bool (!b))
    | _ => none

theorem binV_k {P : Program} {op : BinOp} {T : TypeId} {x y av : AV} (h : binK P op T x y = some av) : binV P op T x y = some av := by
  unfold binK at h
  split at h
  · cases op <;> first | exact h | (simp [intV, shiftV] at h; done)
  · cases op <;> first | exact h | (simp [strV] at h; done)
  · rename_i h1 h2
    have nb : ∀ {b : Bool}, eqK P T x y = some b → eqV P T x y = some b := eqV_k
    split at h
    · rw [Option.map_eq_some_iff] at h
      obtain ⟨b, g1, g2⟩ := h
      unfold binV
      split <;> first | (rename_i e _; cases e; done) | (exact absurd rfl (h1 _ _ _ _ rfl)) | (exact absurd rfl (h2 _ _ rfl)) | (rw [nb g1, Option.map_some, g2]; done) | (simp_all; done)
    · rw [Option.map_eq_some_iff] at h
      obtain ⟨b, g1, g2⟩ := h
      unfold binV
      split <;> first | (rename_i e _; cases e; done) | (exact absurd rfl (h1 _ _ _ _ rfl)) | (exact absurd rfl (h2 _ _ rfl)) | (rw [nb g1, Option.map_some, g2]; done) | (simp_all; done)
    · cases h

def ldK (l : Option (Bool × Nat)) (cs : List AV) : Option AV := match l with
  | some (true, n) => if n ≤ cs.length then some (.agg (cs.take n)) else none
  | some (false, _) => cs.head?
  | none => none

def builtinK (P : Program) (H : AHeap) (b : Builtin) (ts : Array TypeId) (xs : List AV) : Option AV :=
  match b, ts[0]?, xs with
  | .len, some T, x :: _ => lenK H (tk P T) x
  | .min, _, [x, y] => mn2 x y
  | .max, _, [x, y] => mx2 x y
  | _, _, _ => none

theorem builtinV_k (P : Program) (H : AHeap) (b : Builtin) (ts : Array TypeId) (xs : List AV) : builtinV P H b ts xs = builtinK P H b ts xs := by
  unfold builtinV builtinK
  split <;> simp_all [lenV_k]

def pvK (P : Program) (H : AHeap) (ρ : Operand → AV) : Op → Option AV
  | .move x => some (ρ x)
  | .assign x => some (ρ x)
  | .load T a => ((ρ a).cellsAt H).bind (ldK (lay P T))
  | .nilCheck x => if ptrNil (ρ x) = some false then some (ρ x) else none
  | .binOp op T x y _ => binK P op T (ρ x) (ρ y)
  | .unOp op _ x => unV op (ρ x)
  | .convert s d x => if (P.underlying s).isSome then convK (tk P d) (ρ x) else none
  | .makeFunc f a c => some (.fn f (a.toList.map ρ) (c.toList.map ρ))
  | .slice T x l h m => sliceK (tk P T) (ρ x) (l.map ρ) (h.map ρ) (m.map ρ)
  | .fieldAddr T x i => fieldAddrK (tk P T) i (ρ x)
  | .field T x i => fieldValK (tk P T) i (ρ x)
  | .indexAddr T x i => indexAddrK (tk P T) (ρ x) (ρ i)
  | .index T x i => indexK (tk P T) (ρ x) (ρ i)
  | .lookup T x i ok => lookupK H (mapT P T) (ρ x) (ρ i) ok
  | .extract t i => match ρ t with
    | .tup vs => vs[i]?
    | _ => none
  | .build T parts => buildK (buildT P T) (parts.toList.map fun p => (p.1, ρ p.2))
  | .call c => match c.callee with
    | .builtin b => builtinK P H b c.argTypes (c.args.toList.map ρ)
    | _ => none
  | _ => none

theorem pv_k {P : Program} {H : AHeap} {ρ : Operand → AV} {op : Op} {av : AV} (h : pvK P H ρ op = some av) : pv P H ρ op = some av := by
  cases op <;> simp only [pvK, pv] at h ⊢ <;> try (exact h)
  case load T a =>
    rw [Option.bind_eq_some_iff] at h ⊢
    obtain ⟨cs, h1, h2⟩ := h
    exact ⟨cs, h1, by rw [ldAt_eq]; exact h2⟩
  case binOp => exact binV_k h
  case convert s d x =>
    split at h
    · rename_i hs; rw [convV_k hs]; exact h
    · cases h
  case slice => exact sliceV_k rfl h
  case fieldAddr => rw [fieldAddrV_k]; exact h
  case field => rw [fieldValV_k]; exact h
  case indexAddr => exact indexAddrV_k rfl h
  case index => exact indexV_k rfl h
  case lookup => exact lookupV_k rfl h
  case build => exact buildV_k h
  case call c =>
    obtain ⟨callee, args, ats⟩ := c
    cases callee <;> simp only at h ⊢ <;> try (exact h)
    rw [builtinV_k]; exact h
  all_goals (cases h)

section
variable {X : Ctx} {N : NR} {d : Nat} {H : AHeap} {fr : AFr} {ops : Array Oper} {rest : List Oper} {K : AFr → AHeap → Prop} {ty : TypeId} {pos : String} {aft : Array Edge}

theorem op_q {op : Op} {av : AV} (hd : d < N.n) (hp : isPick op = false) (h : pvK X.P H fr.ev op = some av) (k : AOps X N ops rest K ((d, av) :: fr) H) : AOps X N ops (⟨some d, op, ty, pos, aft, none⟩ :: rest) K fr H :=
  op_pv hd hp (pv_k h) k
theorem op_qspec {op : Op} {av : AV} {c : Bool} {ds : List Bool} {j : Nat} {want : Bool} (hd : d < N.n) (hp : isPick op = false) (hs : spec op = true) (hg : gcond want (guardV ops fr j) = some c) (hw : whnConds fr op.operands.toList = ds)
    (h : pvK X.P H fr.evS op = some av) (hc : condsOk c ds) (k : AOps X N ops rest K ((d, .whn c av) :: fr) H) : AOps X N ops (⟨some d, op, ty, pos, aft, some (j, want)⟩ :: rest) K fr H :=
  op_spec hd hp hs hg hw (pv_k h) hc k
theorem op_storeK {T : TypeId} {a x : Operand} {va vx : AV} {H' : AHeap} (ha : fr.ev a = va) (hx : fr.ev x = vx) (hs : storeK H (sz? X.P T) va vx = some H') (k : AOps X N ops rest K fr H') : AOps X N ops (⟨none, .store T a x, ty, pos, aft, none⟩ :: rest) K fr H :=
  op_store ha hx (by rw [storeV_k]; exact hs) k
theorem op_mapputK {T : TypeId} {m x y : Operand} {vm vx vy : AV} {H' : AHeap} (h1 : fr.ev m = vm) (h2 : fr.ev x = vx) (h3 : fr.ev y = vy) (hs : mapputK H (mapT X.P T) vm vx vy = some H') (k : AOps X N ops rest K fr H') : AOps X N ops (⟨none, .mapUpdate T m x y, ty, pos, aft, none⟩ :: rest) K fr H :=
  op_mapput h1 h2 h3 (mapputV_k rfl hs) k
end
end Go.AL

/-
  AL, part y: what a walk's reckoning goes by, as one set.
-/
namespace Go.AL
open Go

attribute [go_sem] AFr.ev AFr.evS AV.strip AFr.get AV.ofC
attribute [go_sem] dr_P
attribute [go_sem] gcond guardV setG gset whnConds Op.operands Call.operands
attribute [go_sem] unI_map pvK binK intV shiftV strV unV builtinK lenK mn2 mx2 sliceK boundV convK fieldAddrK AV.addOff fieldValK indexAddrK indexK lookupK mgetK eqK plainEqK fieldsEqK ldK buildK fillA AV.cells AV.cellsAt AV.loose ptrNil mapNil funNil
attribute [go_sem] storeK mapputK putAt AV.one Value.oneCell' AHeap.get_put_same AHeap.put_put AThen ABlock getAll frame0
attribute [go_sem] reduceIte Nat.reduceEqDiff reduceCtorEq List.map_cons List.map_nil Option.map_some Option.map_none Option.bind_some Option.isSome_some ite_true if_true if_false Bool.false_eq_true beq_true beq_false Bool.not_true Bool.not_false Bool.and_true Bool.and_false Bool.true_and Bool.false_and Bool.and_self
attribute [go_sem] List.drop_zero List.drop_succ_cons List.take_succ_cons List.take_zero List.take_nil List.drop_nil List.head?_cons List.length_cons List.length_nil List.length_map List.append_nil List.nil_append List.cons_append List.all_cons List.all_nil List.getElem?_cons_succ List.getElem?_cons_zero List.getElem?_toArray List.zip_cons_cons List.zip_nil_right
attribute [go_sem] Nat.reduceAdd Nat.reduceMul Nat.reduceLeDiff Nat.reduceLT Nat.zero_add Nat.zero_mul Nat.one_mul Nat.mul_one Int.reduceLE Int.reduceLT Int.toNat_natCast Int.natCast_nonneg Int.reduceToNat ptrTo and_self and_true true_and


end Go.AL

/-
  AL, part z: regions, step by step, by what they mean.
-/
set_option linter.unusedSimpArgs false
set_option linter.unusedVariables false
namespace Go.AL
open Go

section
variable {X : Ctx} {N : NR} {ops : Array Oper}

theorem AOps_then {rest : List Oper} {Q' : Exit → Act → World → Prop} {K : AFr → AHeap → Prop} {H0 : AHeap} {w0 : World} {φ0 : Nat → Nat}
    (hK : ∀ fr H a w φ, K fr H → FR w φ N a fr → Dfr w0 H w a.defers → Rel X w φ H → Out X H0 w0 φ0 H w φ → wpListIn (fen N.ro) 0 X.P ops Q' rest a w) :
    ∀ {l : List Oper} {fr : AFr} {H : AHeap} {a : Act} {w : World} {φ : Nat → Nat}, AOps X N ops l K fr H → FR w φ N a fr → Dfr w0 H w a.defers → Rel X w φ H → Out X H0 w0 φ0 H w φ → wpListIn (fen N.ro) 0 X.P ops Q' (l ++ rest) a w
  | [], fr, H, a, w, φ, h, hf, hd, hr, ho => hK fr H a w φ h hf hd hr ho
  | o :: l, fr, H, a, w, φ, h, hf, hd, hr, ho => by
    obtain ⟨hdst, h⟩ := h
    have value : ∀ {v : Value} {av : AV}, (∀ c, o.op ≠ .defer c) → (execOp a.eval o).run X.P w = .ok (.value v) w → VR (Fz w φ) (Sh w) v av → AOps X N ops l K (AFr.put o.dst av fr) H → o.wpIn (fen N.ro) 0 X.P a w (wpListIn (fen N.ro) 0 X.P ops Q' (l ++ rest)) Q' := fun h0 h1 h2 h3 => by
      refine ow_of h0 ?_
      rw [h1]
      exact AOps_then hK h3 (hf.put' hdst h2) (by rw [defers_put]; exact hd) hr ho
    have step : ∀ fr' ρa, FR w φ N a fr' → (∀ x, VR (Fz w φ) (Sh w) (a.eval x) (ρa x)) → (AOp X H ρa o.op fun av H' => AOps X N ops l K (AFr.put o.dst av fr') H') → o.wpIn (fen N.ro) 0 X.P a w (wpListIn (fen N.ro) 0 X.P ops Q' (l ++ rest)) Q' := fun fr' ρa hf' hρ h => by
      have hdoes := AOp_ok (X := X) (w := w) (φ := φ) h hρ hr
      exact ow_of (AOp_nd h) (upon_ok (fr := fr) hdoes (fun v w' av H' φ' h1 h2 h3 => AOps_then hK h2 ((hf'.out h3).put' hdst h1) (by rw [defers_put]; exact hd.out h3) h3.rel (ho.trans h3)))
    simp only [List.cons_append, wpListIn]
    split at h
    · rename_i hg
      have hw : Region.wanted o (yielded ops a.tmps) = true := by unfold Region.wanted; rw [hg]
      rw [if_pos hw]
      split at h
      · rename_i c x y hop
        obtain ⟨dst, op, ty, pos, aft, gd⟩ := o
        simp only at hop
        subst hop
        obtain ⟨v, av, h1, h2, h3⟩ := pick_ok (X := X) (ty := ty) (pos := pos) (dst := dst) (aft := aft) (gd := gd) h rfl hf
        exact value (fun _ e => by cases e) h1 h2 h3
      · exact (step fr _ hf hf.ev h)
    · rename_i j want hg
      split at h
      · rename_i c hc
        have hy := yielded_eq hf hc
        have hwant : Region.wanted o (yielded ops a.tmps) = c := by unfold Region.wanted; rw [hg]; exact hy
        split at h
        · split at h
          · rename_i x y z hop
            obtain ⟨dst, op, ty, pos, aft, gd⟩ := o
            simp only at hop
            subst hop
            cases hcv : c with
            | true =>
              rw [hwant, hcv, if_pos rfl]
              obtain ⟨v, av, h1, h2, h3⟩ := pick_ok (X := X) (ty := ty) (pos := pos) (dst := dst) (aft := aft) (gd := gd) h hcv hf
              rw [hcv] at h3
              exact value (fun _ e => by cases e) h1 (.whnT h2) h3
            | false =>
              rw [hwant, hcv, if_neg (by simp)]
              obtain ⟨av, h3⟩ := pickV_K h
              rw [hcv] at h3
              exact ⟨fun _ _ => trivial, AOps_then hK h3 (hf.put' hdst (.whnF _)) (by rw [defers_put]; exact hd) hr ho⟩
          · exact h.elim
        split at h
        · -- reckoned ahead
          obtain ⟨hs, h⟩ := h
          split at h
          · rename_i av hav
            cases hcv : c with
            | true =>
              rw [hwant, hcv, if_pos rfl]
              rw [pv_congr (ρ' := evO fr o.op.operands.toList) (fun x hx => evO_mem hx)] at hav
              obtain ⟨v, h1, h2⟩ := pv_ok hav (evO_ok hf hs hcv) hr
              rw [hcv] at h
              exact value (pv_nd hav) h1 (.whnT h2) h
            | false =>
              rw [hwant, hcv, if_neg (by simp)]
              rw [hcv] at h
              exact ⟨fun _ _ => trivial, AOps_then hK h (hf.put' hdst (.whnF _)) (by rw [defers_put]; exact hd) hr ho⟩
          · exact h.elim
        · cases hcv : c with
          | true =>
            rw [hwant, hcv, if_pos rfl]
            obtain ⟨hs, h1⟩ := h.1 hcv
            rw [AOp_congr (ρ' := evO fr o.op.operands.toList) (fun x hx => evO_mem hx)] at h1
            have hfs := setG_ok hf hc
            rw [hcv] at hfs
            exact step _ _ hfs (evO_ok hf hs hcv) h1
          | false =>
            rw [hwant, hcv, if_neg (by simp)]
            have hfs := setG_ok hf hc
            rw [hcv] at hfs
            exact ⟨fun _ _ => trivial, AOps_then hK (h.2 hcv) (hfs.put' hdst (.v _)) (by rw [defers_put]; exact hd) hr ho⟩
      · exact h.elim

def SOps (X : Ctx) (N : NR) (ops : Array Oper) (l : List Oper) (K : AFr → AHeap → Prop) (fr : AFr) (H : AHeap) : Prop :=
  ∀ (Q : Exit → AFr → AHeap → Prop), (∀ fr H, K fr H → Q .normal fr H) → ∀ a w φ H0 w0 φ0, FR w φ N a fr → Dfr w0 H w a.defers → Rel X w φ H → Out X H0 w0 φ0 H w φ → wpListIn (fen N.ro) 0 X.P ops (Post X N H0 w0 φ0 Q) l a w

variable {K : AFr → AHeap → Prop} {fr : AFr} {H : AHeap} {rest : List Oper} {o : Oper} {Q : Exit → AFr → AHeap → Prop}

theorem s_nil (h : K fr H) : SOps X N ops [] K fr H := fun Q hQ a w φ H0 w0 φ0 hf hd hr ho => ⟨fr, H, φ, hQ _ _ h, hf, hd, ho⟩
theorem s_cons (h : AOps X N ops [o] (fun fr H => SOps X N ops rest K fr H) fr H) : SOps X N ops (o :: rest) K fr H := fun Q hQ a w φ H0 w0 φ0 hf hd hr ho =>
  AOps_then (rest := rest) (l := [o]) (fun fr H a w φ hk hf hd hr ho => hk Q hQ a w φ H0 w0 φ0 hf hd hr ho) h hf hd hr ho
theorem s_region {id : Nat} (h : SOps X N ops ops.toList (fun fr H => Q .normal fr H) fr H) : AWp X N (.region id ops false) Q fr H :=
  fun a w φ H0 w0 φ0 hf hd hr ho => wpIn_region_list (h Q (fun _ _ h => h) a w φ H0 w0 φ0 hf hd hr ho)
theorem s_weaken {fr' : AFr} {H' : AHeap} {l : List Oper} (h : SOps X N ops l K fr' H') (hf : ∀ F S (x : Nat → Value), (∀ t, VR F S (x t) (AFr.get t fr)) → ∀ t, VR F S (x t) (AFr.get t fr')) (hH : ∀ b o, H'.get b = some o → H.get b = some o) : SOps X N ops l K fr H :=
  fun Q hQ a w φ H0 w0 φ0 hfr hd hr ho => h Q hQ a w φ H0 w0 φ0 ⟨hfr.size, hf _ _ _ hfr.at_⟩ (hd.forget hH) (ho.forget hH).rel (ho.forget hH)

theorem s_quiet {av : AV} {d : Nat} (hd : o.dst = some d) (hN : d < N.n) (h : QVal X ops H fr o av) (k : SOps X N ops rest K ((d, av) :: fr) H) : SOps X N ops (o :: rest) K fr H := fun Q hQ a w φ H0 w0 φ0 hf hdf hr ho => by
  have hs := QVal.step (X := X) (N := N) (next := fun a' w' => wpListIn (fen N.ro) 0 X.P ops (Post X N H0 w0 φ0 Q) rest a' w') (Q := Post X N H0 w0 φ0 Q) h hf hr (Ext.refl H) (fun v w' φ' h1 h2 => by
    rw [hd]
    exact k Q hQ _ w' φ' H0 w0 φ0 ((hf.out h2).put hN h1) (hdf.out h2) h2.rel (ho.trans h2))
  simp only [wpListIn]
  split
  · rename_i hw; rw [if_pos hw] at hs; exact hs
  · rename_i hw; rw [if_neg hw] at hs; exact hs

variable {d : Nat} {ty : TypeId} {pos : String} {aft : Array Edge}

theorem s_q {op : Op} {av : AV} (hd : d < N.n) (hp : isPick op = false) (h : pvK X.P H fr.ev op = some av) (k : SOps X N ops rest K ((d, av) :: fr) H) : SOps X N ops (⟨some d, op, ty, pos, aft, none⟩ :: rest) K fr H :=
  s_cons (op_q hd hp h (st_nil k))
theorem s_spec {op : Op} {av gv : AV} {c : Bool} {ds : List Bool} {j : Nat} {want : Bool} (hd : d < N.n) (hp : isPick op = false) (hs : spec op = true) (hgv : guardV ops fr j = gv) (hg : gcond want gv = some c) (hw : whnConds fr op.operands.toList = ds)
    (h : pvK X.P H fr.evS op = some av) (hc : condsOk c ds) (k : SOps X N ops rest K ((d, .whn c av) :: fr) H) : SOps X N ops (⟨some d, op, ty, pos, aft, some (j, want)⟩ :: rest) K fr H :=
  s_cons (op_qspec hd hp hs (by rw [hgv]; exact hg) hw h hc (st_nil k))
theorem s_pick {c a b : Operand} {t x y : Bool} {dc da db : List Bool} (hd : d < N.n) (hc : fr.evS c = .v (.bool t)) (ha : fr.evS a = .v (.bool x)) (hb : fr.evS b = .v (.bool y)) (h0 : whnConds fr [c] = dc) (h1 : whnConds fr [a] = da) (h2 : whnConds fr [b] = db)
    (h3 : condsOk true dc) (h4 : condsOk (true && t) da) (h5 : condsOk (true && !t) db) (k : SOps X N ops rest K ((d, .v (.bool (if t then x else y))) :: fr) H) : SOps X N ops (⟨some d, .pick c a b, ty, pos, aft, none⟩ :: rest) K fr H :=
  s_cons (op_pick hd hc ha hb h0 h1 h2 h3 h4 h5 (st_nil k))
theorem s_pickg {c a b : Operand} {gv : AV} {g t x y : Bool} {j : Nat} {want : Bool} {dc da db : List Bool} (hd : d < N.n) (hgv : guardV ops fr j = gv) (hg : gcond want gv = some g) (hc : fr.evS c = .v (.bool t)) (ha : fr.evS a = .v (.bool x)) (hb : fr.evS b = .v (.bool y)) (h0 : whnConds fr [c] = dc) (h1 : whnConds fr [a] = da) (h2 : whnConds fr [b] = db)
    (h3 : condsOk g dc) (h4 : condsOk (g && t) da) (h5 : condsOk (g && !t) db) (k : SOps X N ops rest K ((d, .whn g (.v (.bool (if t then x else y)))) :: fr) H) : SOps X N ops (⟨some d, .pick c a b, ty, pos, aft, some (j, want)⟩ :: rest) K fr H :=
  s_cons (op_pickg hd (by rw [hgv]; exact hg) hc ha hb h0 h1 h2 h3 h4 h5 (st_nil k))
theorem s_box {T : TypeId} {x : Operand} {av : AV} {cs : List AV} (hd : d < N.n) (hx : fr.ev x = av) (hz : av.cells = some cs) (k : ∀ b, H.get b = none → SOps X N ops rest K ((d, ptrTo b) :: fr) (H.put b (.box T cs))) : SOps X N ops (⟨some d, .box T x, ty, pos, aft, none⟩ :: rest) K fr H :=
  s_cons (op_box hd hx hz fun b hb => st_nil (k b hb))
theorem s_alloc {T : TypeId} {cs : List AV} (hd : d < N.n) (hz : zC X.P T = some cs) (k : ∀ b, H.get b = none → SOps X N ops rest K ((d, ptrTo b) :: fr) (H.put b (.box T cs))) : SOps X N ops (⟨some d, .alloc T, ty, pos, aft, none⟩ :: rest) K fr H :=
  s_cons (op_alloc hd hz fun b hb => st_nil (k b hb))
theorem s_lit {T e : TypeId} {sz by_ n : Nat} {parts : Array (Nat × Operand)} {ps : List (Nat × AV)} {es : List (List AV)} (hd : d < N.n) (hT : elT X.P T = some (e, sz, by_)) (hps : (parts.toList.map fun p => (p.1, fr.ev p.2)) = ps) (hl : litV sz 0 ps = some es) (hn : n = parts.size ∧ n * sz ≤ 16777216)
    (k : SOps X N ops rest K ((d, .sl true es) :: fr) H) : SOps X N ops (⟨some d, .buildSlice T n parts, ty, pos, aft, none⟩ :: rest) K fr H :=
  s_cons (op_lit hd hT (by rw [hps]; exact hl) hn (st_nil k))
theorem s_litrow {T e : TypeId} {sz by_ n : Nat} {parts : Array (Nat × Operand)} {ps : List (Nat × AV)} {es : List (List AV)} (hd : d < N.n) (hT : elT X.P T = some (e, sz, by_)) (hps : (parts.toList.map fun p => (p.1, fr.ev p.2)) = ps) (hl : litV sz 0 ps = some es) (hn : n = parts.size ∧ n * sz ≤ 16777216)
    (k : ∀ b, H.get b = none → SOps X N ops rest K ((d, .row b sz es.length) :: fr) (H.put b (.row e sz false es))) : SOps X N ops (⟨some d, .buildSlice T n parts, ty, pos, aft, none⟩ :: rest) K fr H :=
  s_cons (op_litrow hd hT (by rw [hps]; exact hl) hn fun b hb => st_nil (k b hb))
theorem s_smap {T : TypeId} {z : Option AV} (hd : d < N.n) (hT : mapT X.P T = some (.str, z)) (k : ∀ b, H.get b = none → SOps X N ops rest K ((d, .v (.map (some b))) :: fr) (H.put b (.smap []))) : SOps X N ops (⟨some d, .makeMap T none, ty, pos, aft, none⟩ :: rest) K fr H := by
  obtain ⟨kt, et, h1, h2⟩ := mapT_inv hT
  exact s_cons (op_smap hd h1 (tk_str h2) fun b hb => st_nil (k b hb))
theorem s_imap {T : TypeId} {z : Option AV} {ik : IntKind} (hd : d < N.n) (hT : mapT X.P T = some (.int ik, z)) (k : ∀ b, H.get b = none → SOps X N ops rest K ((d, .v (.map (some b))) :: fr) (H.put b (.imap ik []))) : SOps X N ops (⟨some d, .makeMap T none, ty, pos, aft, none⟩ :: rest) K fr H := by
  obtain ⟨kt, et, h1, h2⟩ := mapT_inv hT
  exact s_cons (op_imap hd h1 (tk_int h2) fun b hb => st_nil (k b hb))
theorem s_make {T e : TypeId} {sz by_ : Nat} {l c : Operand} {n : Int} {z : List AV} (hd : d < N.n) (hT : elT X.P T = some (e, sz, by_)) (hl : fr.ev l = .v (.int .i64 n)) (hc : fr.ev c = .v (.int .i64 n)) (hz : zC X.P e = some z)
    (hb : 0 ≤ n ∧ n * by_ ≤ 281474976710656 ∧ 0 < by_) (k : ∀ b, H.get b = none → SOps X N ops rest K ((d, .row b sz n.toNat) :: fr) (H.put b (.row e sz false (List.replicate n.toNat z)))) : SOps X N ops (⟨some d, .makeSlice T l c, ty, pos, aft, none⟩ :: rest) K fr H :=
  s_cons (op_make hd hT hl hc hz hb fun b hb => st_nil (k b hb))
theorem s_call {f : Operand} {args : Array Operand} {ats : Array TypeId} {g : FuncId} {first cap as : List AV} (hd : d < N.n) (hf : fr.ev f = .fn (.func g) first cap) (ha : first ++ args.toList.map fr.ev ++ cap = as)
    (k : ACall X g as H fun av H' => SOps X N ops rest K ((d, av) :: fr) H') : SOps X N ops (⟨some d, .call ⟨.value f, args, ats⟩, ty, pos, aft, none⟩ :: rest) K fr H :=
  s_cons (op_call hd hf ha (k.mono fun _ _ h => st_nil h))
theorem s_append {s x : Operand} {a b : AV} {T xT : TypeId} (hd : d < N.n) (hs : fr.ev s = a) (hx : fr.ev x = b) (k : AApp X T xT a b H fun av H' => SOps X N ops rest K ((d, av) :: fr) H') : SOps X N ops (⟨some d, .call ⟨.builtin .append, #[s, x], #[T, xT]⟩, ty, pos, aft, none⟩ :: rest) K fr H :=
  s_cons (op_append hd hs hx fun ty w φ vs vx hr h1 h2 => let ⟨v, w', av, H', φ', g1, g2, g3, g4⟩ := k ty w φ vs vx hr h1 h2; ⟨v, w', av, H', φ', g1, g2, st_nil g3, g4⟩)
theorem s_store {T : TypeId} {a x : Operand} {va vx : AV} {H' : AHeap} (ha : fr.ev a = va) (hx : fr.ev x = vx) (hs : storeK H (sz? X.P T) va vx = some H') (k : SOps X N ops rest K fr H') : SOps X N ops (⟨none, .store T a x, ty, pos, aft, none⟩ :: rest) K fr H :=
  s_cons (op_storeK ha hx hs (st_nil k))
theorem s_mapput {T : TypeId} {m x y : Operand} {vm vx vy : AV} {H' : AHeap} (h1 : fr.ev m = vm) (h2 : fr.ev x = vx) (h3 : fr.ev y = vy) (hs : mapputK H (mapT X.P T) vm vx vy = some H') (k : SOps X N ops rest K fr H') : SOps X N ops (⟨none, .mapUpdate T m x y, ty, pos, aft, none⟩ :: rest) K fr H :=
  s_cons (op_mapputK h1 h2 h3 hs (st_nil k))
theorem s_gpure {f : Operand} {args : Array Operand} {ats : Array TypeId} {g : FuncId} {first cap as : List AV} {gv av : AV} {c : Bool} {ds : List Bool} {j : Nat} {want : Bool} (hd : d < N.n) (hgv : guardV ops fr j = gv) (hg : gcond want gv = some c) (hw : whnConds fr (f :: args.toList) = ds) (hc : condsOk c ds)
    (hf : fr.evS f = .fn (.func g) first cap) (ha : first ++ args.toList.map fr.evS ++ cap = as) (hcall : ACall X g as H fun r H' => r = av ∧ H' = H) (k : SOps X N ops rest K ((d, .whn c av) :: fr) H) :
    SOps X N ops (⟨some d, .call ⟨.value f, args, ats⟩, ty, pos, aft, some (j, want)⟩ :: rest) K fr H :=
  s_quiet (d := d) rfl hd (.guard rfl (by rw [hgv]; exact hg) (allStrip_of (ds := ds) (by simpa [Op.operands, Call.operands] using hw) hc) (fun _ => .call hf (by rw [ha]; exact hcall))) k
theorem s_when {op : Op} {gv av : AV} {c : Bool} {ds : List Bool} {j : Nat} {want : Bool} (hd : d < N.n) (hgv : guardV ops fr j = gv) (hg : gcond want gv = some c) (hw : whnConds fr op.operands.toList = ds) (hc : condsOk c ds)
    (h : c = true → pvK X.P H fr.evS op = some av) (k : SOps X N ops rest K ((d, .whn c av) :: fr) H) : SOps X N ops (⟨some d, op, ty, pos, aft, some (j, want)⟩ :: rest) K fr H :=
  s_quiet (d := d) rfl hd (.guard rfl (by rw [hgv]; exact hg) (allStrip_of hw hc) fun hc => .pv (pv_k (h hc))) k
theorem s_guard {op : Op} {c : Bool} {gv : AV} {ds : List Bool} {j : Nat} {want : Bool} {fr1 fr2 : AFr} (hd : d < N.n) (hs : spec op = false) (hgv : guardV ops fr j = gv) (hg : gcond want gv = some c) (hw : whnConds fr op.operands.toList = ds) (e1 : setG ops j want true fr = fr1) (e2 : setG ops j want false fr = fr2) (hc : condsOk c ds)
    (h1 : c = true → AOp X H fr.evS op fun av H' => SOps X N ops rest K ((d, av) :: fr1) H') (h2 : c = false → SOps X N ops rest K ((d, .v undef) :: fr2) H) :
    SOps X N ops (⟨some d, op, ty, pos, aft, some (j, want)⟩ :: rest) K fr H :=
  s_cons (op_guard hd hs (by rw [hgv]; exact hg) hw e1 e2 hc (fun h => AOp_mono (fun _ _ h => st_nil h) (h1 h)) (fun h => st_nil (h2 h)))

variable {KE : AFr → Prop}
theorem e_nil (h : KE fr) : AE X N ops H [] KE fr := h
theorem e_q {op : Op} {av : AV} (hd : d < N.n) (h : pvK X.P H fr.ev op = some av) (k : AE X N ops H rest KE ((d, av) :: fr)) : AE X N ops H (⟨some d, op, ty, pos, aft, none⟩ :: rest) KE fr := ⟨d, av, rfl, hd, .plain rfl (.pv (pv_k h)), k⟩
theorem e_spec {op : Op} {av gv : AV} {c : Bool} {ds : List Bool} {j : Nat} {want : Bool} (hd : d < N.n) (hgv : guardV ops fr j = gv) (hg : gcond want gv = some c) (hw : whnConds fr op.operands.toList = ds) (h : pvK X.P H fr.evS op = some av) (hc : condsOk c ds)
    (k : AE X N ops H rest KE ((d, .whn c av) :: fr)) : AE X N ops H (⟨some d, op, ty, pos, aft, some (j, want)⟩ :: rest) KE fr := ⟨d, _, rfl, hd, .guard rfl (by rw [hgv]; exact hg) (allStrip_of hw hc) (fun _ => .pv (pv_k h)), k⟩
theorem e_pick {c a b : Operand} {t x y : Bool} {dc da db : List Bool} (hd : d < N.n) (hc : fr.evS c = .v (.bool t)) (ha : fr.evS a = .v (.bool x)) (hb : fr.evS b = .v (.bool y)) (h0 : whnConds fr [c] = dc) (h1 : whnConds fr [a] = da) (h2 : whnConds fr [b] = db)
    (h3 : condsOk true dc) (h4 : condsOk (true && t) da) (h5 : condsOk (true && !t) db) (k : AE X N ops H rest KE ((d, .v (.bool (if t then x else y))) :: fr)) : AE X N ops H (⟨some d, .pick c a b, ty, pos, aft, none⟩ :: rest) KE fr :=
  ⟨d, _, rfl, hd, .pick rfl rfl (pickV_of (K := fun av => av = _) hc ha hb h0 h1 h2 h3 h4 h5 rfl), k⟩
theorem e_pickg {c a b : Operand} {gv : AV} {g t x y : Bool} {j : Nat} {want : Bool} {dc da db : List Bool} (hd : d < N.n) (hgv : guardV ops fr j = gv) (hg : gcond want gv = some g) (hc : fr.evS c = .v (.bool t)) (ha : fr.evS a = .v (.bool x)) (hb : fr.evS b = .v (.bool y)) (h0 : whnConds fr [c] = dc) (h1 : whnConds fr [a] = da) (h2 : whnConds fr [b] = db)
    (h3 : condsOk g dc) (h4 : condsOk (g && t) da) (h5 : condsOk (g && !t) db) (k : AE X N ops H rest KE ((d, .whn g (.v (.bool (if t then x else y)))) :: fr)) : AE X N ops H (⟨some d, .pick c a b, ty, pos, aft, some (j, want)⟩ :: rest) KE fr :=
  ⟨d, _, rfl, hd, .gpick rfl (by rw [hgv]; exact hg) rfl (pickV_of (K := fun av => av = _) hc ha hb h0 h1 h2 h3 h4 h5 rfl), k⟩
theorem e_call {f : Operand} {args : Array Operand} {ats : Array TypeId} {g : FuncId} {first cap as : List AV} {av : AV} (hd : d < N.n) (hf : fr.ev f = .fn (.func g) first cap) (ha : first ++ args.toList.map fr.ev ++ cap = as) (hcall : ACall X g as H fun r H' => r = av ∧ H' = H)
    (k : AE X N ops H rest KE ((d, av) :: fr)) : AE X N ops H (⟨some d, .call ⟨.value f, args, ats⟩, ty, pos, aft, none⟩ :: rest) KE fr :=
  ⟨d, av, rfl, hd, .plain rfl (.call hf (by rw [ha]; exact hcall)), k⟩
theorem e_gpure {f : Operand} {args : Array Operand} {ats : Array TypeId} {g : FuncId} {first cap as : List AV} {gv av : AV} {c : Bool} {ds : List Bool} {j : Nat} {want : Bool} (hd : d < N.n) (hgv : guardV ops fr j = gv) (hg : gcond want gv = some c) (hw : whnConds fr (f :: args.toList) = ds) (hc : condsOk c ds)
    (hf : fr.evS f = .fn (.func g) first cap) (ha : first ++ args.toList.map fr.evS ++ cap = as) (hcall : ACall X g as H fun r H' => r = av ∧ H' = H) (k : AE X N ops H rest KE ((d, .whn c av) :: fr)) :
    AE X N ops H (⟨some d, .call ⟨.value f, args, ats⟩, ty, pos, aft, some (j, want)⟩ :: rest) KE fr :=
  ⟨d, _, rfl, hd, .guard rfl (by rw [hgv]; exact hg) (allStrip_of (ds := ds) (by simpa [Op.operands, Call.operands] using hw) hc) (fun _ => .call hf (by rw [ha]; exact hcall)), k⟩

theorem e_lit {T e : TypeId} {sz by_ n : Nat} {parts : Array (Nat × Operand)} {ps : List (Nat × AV)} {es : List (List AV)} (hd : d < N.n) (hT : elT X.P T = some (e, sz, by_)) (hps : (parts.toList.map fun p => (p.1, fr.ev p.2)) = ps) (hl : litV sz 0 ps = some es) (hn : n = parts.size ∧ n * sz ≤ 16777216)
    (k : AE X N ops H rest KE ((d, .sl true es) :: fr)) : AE X N ops H (⟨some d, .buildSlice T n parts, ty, pos, aft, none⟩ :: rest) KE fr :=
  ⟨d, _, rfl, hd, .plain rfl (.own (by simp only [AOp, hT, hps, hl, if_pos hn]; exact .inl ⟨trivial, trivial⟩)), k⟩
theorem whn_parts {fr : AFr} {parts : Array (Nat × Operand)} {ds : List Bool} (h : whnConds fr (parts.toList.map (·.2)) = ds) {T n : Nat} : whnConds fr (Op.buildSlice T n parts).operands.toList = ds := by simpa [Op.operands] using h
theorem s_glit {T e : TypeId} {sz by_ n : Nat} {parts : Array (Nat × Operand)} {ps : List (Nat × AV)} {es : List (List AV)} {gv : AV} {c : Bool} {ds : List Bool} {j : Nat} {want : Bool} (hd : d < N.n) (hgv : guardV ops fr j = gv) (hg : gcond want gv = some c) (hw : whnConds fr (parts.toList.map (·.2)) = ds) (hc : condsOk c ds)
    (hT : elT X.P T = some (e, sz, by_)) (hps : (parts.toList.map fun p => (p.1, fr.evS p.2)) = ps) (hl : litV sz 0 ps = some es) (hn : n = parts.size ∧ n * sz ≤ 16777216)
    (k : SOps X N ops rest K ((d, .whn c (.sl true es)) :: fr) H) : SOps X N ops (⟨some d, .buildSlice T n parts, ty, pos, aft, some (j, want)⟩ :: rest) K fr H :=
  s_quiet (d := d) rfl hd (.guard rfl (by rw [hgv]; exact hg) (allStrip_of (whn_parts hw) hc) (fun _ => .own (by simp only [AOp, hT, hps, hl, if_pos hn]; exact .inl ⟨trivial, trivial⟩))) k

theorem e_when {op : Op} {gv av : AV} {c : Bool} {ds : List Bool} {j : Nat} {want : Bool} (hd : d < N.n) (hgv : guardV ops fr j = gv) (hg : gcond want gv = some c) (hw : whnConds fr op.operands.toList = ds) (hc : condsOk c ds)
    (h : c = true → pvK X.P H fr.evS op = some av) (k : AE X N ops H rest KE ((d, .whn c av) :: fr)) : AE X N ops H (⟨some d, op, ty, pos, aft, some (j, want)⟩ :: rest) KE fr := ⟨d, _, rfl, hd, .guard rfl (by rw [hgv]; exact hg) (allStrip_of hw hc) fun hc => .pv (pv_k (h hc)), k⟩

variable {H0 : AHeap} {m : Nat}
theorem t_nil (h : K fr H) : AT X N H0 m [] K fr H := h
theorem t_op {op : Op} {dst : Option Tmp} (hd : dstOk N dst = true) (h : AOp X H fr.ev op fun av H' => (0 < m → Ext H0 H') ∧ AT X N H0 (m - 1) rest K (AFr.put dst av fr) H') : AT X N H0 m (⟨dst, op, ty, pos, aft, none⟩ :: rest) K fr H := ⟨hd, rfl, h⟩
theorem Ext.put {b : Nat} {ob : AObj} (he : Ext H0 H) (hb : H.get b = none) : Ext H0 (H.put b ob) := fun c o hc => by
  have h1 := he c o hc
  rw [AHeap.get_put]
  split
  · rename_i e; subst e; rw [hb] at h1; cases h1
  · exact h1
theorem t_alloc {T : TypeId} {cs : List AV} (hd : d < N.n) (hz : zC X.P T = some cs) (hx : 0 < m → Ext H0 H) (k : ∀ b, H.get b = none → (0 < m → Ext H0 (H.put b (.box T cs))) → AT X N H0 (m - 1) rest K ((d, ptrTo b) :: fr) (H.put b (.box T cs))) : AT X N H0 m (⟨some d, .alloc T, ty, pos, aft, none⟩ :: rest) K fr H :=
  t_op (by simpa [dstOk] using hd) (by simp only [AOp, hz]; exact fun b hb => ⟨fun h => (hx h).put hb, k b hb fun h => (hx h).put hb⟩)
theorem t_mapput {T : TypeId} {q x y : Operand} {vm vx vy : AV} {H' : AHeap} (hm : m = 0) (h1 : fr.ev q = vm) (h2 : fr.ev x = vx) (h3 : fr.ev y = vy) (hs : mapputK H (mapT X.P T) vm vx vy = some H') (k : AT X N H0 0 rest K fr H') : AT X N H0 m (⟨none, .mapUpdate T q x y, ty, pos, aft, none⟩ :: rest) K fr H := by
  subst hm
  exact t_op rfl (by have := mapputV_k rfl hs; simp only [AOp, h1, h2, h3, this]; exact ⟨fun h => absurd h (by omega), k⟩)
end

def ancTab (ops : Array Oper) : Array (List Nat) := ops.toList.foldl (fun tab o => tab.push (o.after.toList.foldl (fun acc e => if bindAny e then (e.on :: tab.getD e.on []).foldl (fun a x => if a.contains x then a else x :: a) acc else acc) [])) #[]

attribute [go_sem] opsOf List.filterMap_cons List.filterMap_nil litV List.size_toArray Array.toList_append Array.empty_append Array.append_empty List.append_toArray Option.toArray_some Option.toArray_none

end Go.AL

/-
  AL, part za: library contracts of the kit, as contracts here.
-/
set_option linter.unusedSimpArgs false
set_option linter.unusedVariables false
namespace Go.AL
open Go

theorem drewN_out {X : Ctx} {H : AHeap} {w : World} {φ : Nat → Nat} (hr : Rel X w φ H) (n : Nat) : Out X H w φ H (w.drewN n) φ :=
  ⟨⟨rfl, rfl, rfl, Nat.le_refl _, fun _ _ h => h, fun _ _ h => h, fun _ _ _ => ⟨rfl, rfl⟩⟩, ⟨hr.obj, hr.lim, hr.env⟩, fun _ h => .inl h, fun _ => Nat.le_add_right _ _⟩

theorem ACall_same {X : Ctx} {f : FuncId} {args : List AV} {H : AHeap} {K : AV → AHeap → Prop} {a : AV} (hc : canEnter X.P f = true) (k : K a H)
    (h : ∀ w φ xs, Rel X w φ H → VRs (Fz w φ) (Sh w) xs args → ∃ v, VR (Fz w φ) (Sh w) v a ∧ Calls X.P f ⟨xs⟩ w fun e w' => e = .returned v ∧ ∃ n, w' = w.drewN n) : ACall X f args H K :=
  ⟨hc, fun w φ xs hr hx => by
    obtain ⟨v, h1, h2⟩ := h w φ xs hr hx
    refine h2.mono fun e w' ⟨he, n, hw⟩ => ?_
    subst hw
    exact ⟨v, a, H, φ, he, h1, k, drewN_out hr n⟩⟩

theorem vrs_ss {F : Addr → Value → Prop} {S : Nat → Nat → Prop} {xs : List Value} {l m : List UInt8} (h : VRs F S xs [.s l, .s m]) : ∃ a b : ByteArray, xs = [.string a, .string b] ∧ a.data.toList = l ∧ b.data.toList = m := by
  cases h with
  | cons h hs => cases hs with
    | cons g gs => cases gs; cases h; cases g; exact ⟨_, _, rfl, rfl, rfl⟩

theorem vr_str {F : Addr → Value → Prop} {S : Nat → Nat → Prop} (l : List UInt8) : VR F S (.string ⟨l.toArray⟩) (.s l) := by
  have := VR.s (F := F) (S := S) ⟨l.toArray⟩
  simpa using this
section
variable {X : Ctx} {H : AHeap}
theorem ACall.args_eq {f : FuncId} {as bs : List AV} {K : AV → AHeap → Prop} (e : as = bs) (h : ACall X f bs H K) : ACall X f as H K := e ▸ h
theorem ACall.drop {f : FuncId} {as : List AV} {K : AV → AHeap → Prop} (h : ACall X f as H fun a L => ∃ L', Ext L' L ∧ K a L') : ACall X f as H K :=
  ⟨h.1, fun w φ xs hr hx => (h.2 w φ xs hr hx).mono fun e w' ⟨v, av, L, φ', e1, h1, ⟨L', h2, h3⟩, h4⟩ => ⟨v, av, L', φ', e1, h1, h3, h4.forget h2⟩⟩

theorem get_fresh {b c : Nat} {o x : AObj} (hb : H.get b = some o) (hn : H.get c = none) : (H.put c x).get b = some o := by
  rw [AHeap.get_put, if_neg]
  · exact hb
  · rintro rfl; rw [hb] at hn; cases hn
theorem get_other {b c : Nat} {o x : AObj} (hb : H.get b = some o) (hn : b ≠ c) : (H.put c x).get b = some o := by
  rw [AHeap.get_put, if_neg hn]; exact hb
theorem none_fresh {b c : Nat} {x : AObj} (hb : (H.put c x).get b = none) : H.get b = none := by
  rw [AHeap.get_put] at hb
  split at hb
  · cases hb
  · exact hb
theorem Ext.both {A B : AHeap} (h : Ext A B) (c : Nat) (o : AObj) : Ext (A.put c o) (B.put c o) := fun b x hb => by
  rw [AHeap.get_put] at hb
  rw [AHeap.get_put]
  by_cases e : b = c
  · rw [if_pos e] at hb ⊢; exact hb
  · rw [if_neg e] at hb ⊢; exact h b x hb
theorem Ext.over {A B : AHeap} {c : Nat} {o : AObj} (h : Ext A B) (hc : A.get c = none) : Ext A (B.put c o) := fun b x hb => by
  rw [AHeap.get_put]
  by_cases e : b = c
  · subst e; rw [hc] at hb; cases hb
  · rw [if_neg e]; exact h b x hb
theorem Ext.trans {A B C : AHeap} (h : Ext A B) (k : Ext B C) : Ext A C := fun b x hb => k b x (h b x hb)
theorem Ext.fresh {b : Nat} {o : AObj} (hb : H.get b = none) : Ext H (H.put b o) := Ext.put (Ext.refl H) hb

variable {N : NR} {d : Nat} {fr : AFr} {ops : Array Oper} {rest : List Oper} {K : AFr → AHeap → Prop} {ty : TypeId} {pos : String} {aft : Array Edge}
theorem put_same {b : Nat} {o : AObj} (h : H.get b = some o) : H.put b o = H := by
  funext c
  simp only [AHeap.put]
  split
  · rename_i e; subst e; exact h.symm
  · rfl
theorem AWp_drawA (E T : List Nat) (m : Nat) {id : Nat} {lE lT : List Oper} {Q : Exit → AFr → AHeap → Prop} (hm : X.P.follows .mixedOrders = true) (hok : drawOk ops (ancTab ops) E T m = true)
    (hE : opsOf ops E = lE) (hT : opsOf ops T = lT) (h : AE X N ops H lE (fun fr' => AT X N H m lT (fun fr H => Q .normal fr H) fr' H) fr) : AWp X N (.region id ops true) Q fr H := AWp_draw hm hok hE hT h
theorem t_storex {H0 : AHeap} {m : Nat} {K : AFr → AHeap → Prop} {T : TypeId} {a x : Operand} {va vx : AV} {H' : AHeap} (ha : fr.ev a = va) (hv : fr.ev x = vx) (hs : storeK H (sz? X.P T) va vx = some H') (hx : 0 < m → Ext H0 H') (k : AT X N H0 (m - 1) rest K fr H') : AT X N H0 m (⟨none, .store T a x, ty, pos, aft, none⟩ :: rest) K fr H :=
  t_op rfl (by rw [← storeV_k] at hs; simp only [AOp, ha, hv, hs]; exact ⟨hx, k⟩)
end
attribute [go_sem] resAV resVs resV ldAt_eq
end Go.AL

/-
  AL, part zb: what is appended, and a grown row handed to a call.
-/
set_option linter.unusedSimpArgs false
set_option linter.unusedVariables false
namespace Go.AL
open Go

section
variable {X : Ctx} {H : AHeap}

theorem src_sl {P : Program} {xT e : TypeId} {s : Option Nat} {sz : Nat} {t : Bool} {es : List (List AV)} (ht : tk P xT = .sl e s) (h : ∀ c ∈ es, c.length = sz ∧ c.all AV.one = true) : srcV P H sz xT (.sl t es) = some es := by
  simp only [srcV, (tk_sl ht).1]
  rw [if_pos]
  rw [List.all_eq_true]
  intro c hc
  simp [(h c hc).1, (h c hc).2]
theorem snaps_append (b sz : Nat) (es : List (List AV)) : ∀ l m : List AV, AV.snaps b sz es (l ++ m) = AV.snaps b sz es l ++ AV.snaps b sz es m
  | [], _ => rfl
  | x :: l, m => by simp only [List.cons_append, AV.snaps, snaps_append b sz es l m]

theorem Gr.call {f : FuncId} {e sz : Nat} {H0 : AHeap} {es : List (List AV)} {s : AV} {pre post : List AV} {K : AV → AHeap → Prop} (hg : Gr e sz H0 es s H)
    (hp : ∀ b, AV.snaps b sz es pre = pre) (hq : ∀ b, AV.snaps b sz es post = post) (h : ∀ t H', Ext H0 H' → ACall X f (pre ++ .sl t es :: post) H' K) : ACall X f (pre ++ s :: post) H K := by
  rcases hg with ⟨rfl, rfl, rfl⟩ | ⟨b, hb, rfl, rfl⟩
  · exact h true H (Ext.refl _)
  · refine ACall.pre (Snap.row (AHeap.get_put_same _ _ _)) ?_
    rw [AHeap.put_put, snaps_append, hp b]
    simp only [AV.snaps, AV.snap]
    rw [if_pos trivial, if_pos ⟨trivial, Nat.le_refl _⟩, List.take_length, hq b]
    exact h false _ (Ext.fresh hb)

variable {N : NR} {fr : AFr}
section
variable {H0 : AHeap} {m d : Nat} {rest : List Oper} {K : AFr → AHeap → Prop} {ty : TypeId} {pos : String} {aft : Array Edge}
theorem t_q {op : Op} {av : AV} (hd : d < N.n) (h : pvK X.P H fr.ev op = some av) (hx : 0 < m → Ext H0 H) (k : AT X N H0 (m - 1) rest K ((d, av) :: fr) H) : AT X N H0 m (⟨some d, op, ty, pos, aft, none⟩ :: rest) K fr H :=
  t_op (by simpa [dstOk] using hd) (AOp_of_pv (pv_k h) ⟨hx, k⟩)
theorem t_append {s x : Operand} {a b : AV} {T xT : TypeId} (hd : d < N.n) (hs : fr.ev s = a) (hx : fr.ev x = b) (k : AApp X T xT a b H fun av H' => (0 < m → Ext H0 H') ∧ AT X N H0 (m - 1) rest K ((d, av) :: fr) H') : AT X N H0 m (⟨some d, .call ⟨.builtin .append, #[s, x], #[T, xT]⟩, ty, pos, aft, none⟩ :: rest) K fr H :=
  t_op (by simpa [dstOk] using hd) (by simp only [AOp, callV, hs, hx]; exact k)
end
end
end Go.AL

/-
  AL, part zc: what a law is handed, opened, with what bounds its size.
-/
set_option linter.unusedSimpArgs false
set_option linter.unusedVariables false
namespace Go.AL
open Go Go.RowKit Go.ChangeShapes

def Light {H : Type} (P : Program) (t : TypeId) (d : DataW H) : Prop := ∀ n ∈ d.weights P t, n ≤ reachBytes

section
variable {H : Type} {enc : TypeId × Value → H} {P : Program} {w : World}

def OpensL {H : Type} (enc : TypeId × Value → H) (P : Program) (w : World) (n : Nat) (t : TypeId) (R : List AV → Prop) : Prop :=
  ∀ cs x, DataW.trod enc P w 0 (fun _ => true) true n t cs = some x → Light P t x.1 → ∃ as, VRs (Fz w (phi0 w)) (Sh w) cs as ∧ R as ∧ as.length = P.cellsOf t

theorem OpensL.mono {n : Nat} {t : TypeId} {R R' : List AV → Prop} (h : OpensL enc P w n t R) (hr : ∀ as, R as → R' as) : OpensL enc P w n t R' := fun cs x hx hl =>
  let ⟨as, h1, h2, h3⟩ := h cs x hx hl; ⟨as, h1, hr as h2, h3⟩
theorem OpensL.zero {t : TypeId} {R : List AV → Prop} : OpensL enc P w 0 t R := fun cs x hx => by simp [DataW.trod] at hx

theorem o_bool {t : TypeId} (ht : P.underlying t = some .bool) (hc : P.cellsOf t = 1) (n : Nat) : OpensL enc P w n t fun as => ∃ b, as = [.v (.bool b)] := fun cs x hx _ => by
  obtain ⟨b, rfl, _⟩ := DataW.trod_bool ht hx
  exact ⟨[.v (.bool b)], .cons (.v _) .nil, ⟨b, rfl⟩, hc.symm⟩
theorem o_int {t : TypeId} {k : IntKind} (ht : P.underlying t = some (.int k)) (hc : P.cellsOf t = 1) (n : Nat) : OpensL enc P w n t fun as => ∃ i, as = [.v (.int k i)] ∧ (Lit.int k i).wf = true := fun cs x hx _ => by
  obtain ⟨i, rfl, _, hw⟩ := DataW.trod_int ht hx
  exact ⟨[.v (.int k i)], .cons (.v _) .nil, ⟨i, rfl, hw⟩, hc.symm⟩
theorem o_i64 {t : TypeId} (ht : P.underlying t = some (.int .i64)) (hc : P.cellsOf t = 1) (n : Nat) : OpensL enc P w n t fun as => ∃ i, as = [.v (.int .i64 i)] ∧ -9223372036854775808 ≤ i ∧ i < 9223372036854775808 := (o_int ht hc n).mono fun as ⟨i, h, hw⟩ => ⟨i, h, by
  simp [Lit.wf, IntKind.min, IntKind.max, IntKind.signed, IntKind.bits] at hw; omega⟩
theorem o_str {t : TypeId} (ht : P.underlying t = some .string) (hc : P.cellsOf t = 1) (n : Nat) : OpensL enc P w n t fun as => ∃ l : List UInt8, as = [.s l] ∧ l.length ≤ reachBytes := fun cs x hx hl => by
  obtain ⟨s, rfl, e, hs⟩ := DataW.trod_string ht hx
  refine ⟨[.s s.data.toList], .cons (.s s) .nil, ⟨_, rfl, ?_⟩, hc.symm⟩
  subst e
  exact hl _ (by simp [DataW.weights])
theorem all_weights {e : TypeId} {d : DataW H} : ∀ {l : List (DataW H)}, d ∈ l → ∀ n ∈ d.weights P e, n ∈ DataW.weightsAll P e l
  | a :: l, h, n, hn => by
    simp only [DataW.weightsAll, List.mem_append]
    rcases List.mem_cons.1 h with rfl | h
    · exact .inl hn
    · exact .inr (all_weights h n hn)
theorem each_weights {t : TypeId} {d : DataW H} : ∀ {ts : List TypeId} {l : List (DataW H)} {i : Nat}, ts[i]? = some t → l[i]? = some d → ∀ n ∈ d.weights P t, n ∈ DataW.weightsEach P ts l
  | a :: ts, b :: l, i, h1, h2, n, hn => by
    simp only [DataW.weightsEach, List.mem_append]
    cases i with
    | zero => simp at h1 h2; subst h1 h2; exact .inl hn
    | succ i => exact .inr (each_weights (by simpa using h1) (by simpa using h2) n hn)
  | [], _, _, h1, _, _, _ => by cases h1
  | _ :: _, [], _, _, h2, _, _ => by cases h2

theorem o_slice {t e : TypeId} {R : List AV → Prop} (ht : P.underlying t = some (.slice e)) (hc : P.cellsOf t = 1) {n : Nat} (he : OpensL enc P w n e R) :
    OpensL enc P w (n + 1) t fun as => ∃ es : List (List AV), as = [.sl false es] ∧ es.length * P.bytesOf e ≤ reachBytes ∧ es.length ≤ 9223372036854775807 ∧ ∀ x ∈ es, R x := fun cs x hx hl => by
  rcases DataW.trod_slice ht hx with ⟨rfl, _⟩ | ⟨a, len, cap, elems, rest, m, hm, rfl, e0, _, hlc, hcm, hel, h1, _, _⟩
  · exact ⟨[.sl false []], .cons (.slnil _) .nil, ⟨[], rfl, by simp, by simp, fun _ h => by cases h⟩, hc.symm⟩
  · cases hm
    subst e0
    have hlen : (elems.length + rest.length) * P.bytesOf e ≤ reachBytes := hl _ (by simp [DataW.weights, ht])
    have key : ∀ i, i < len → ∃ as, CRs (Fz w (phi0 w)) (Sh w) a (i * P.cellsOf e) as ∧ R as ∧ as.length = P.cellsOf e := fun i hi => by
      have h2 := h1 i hi
      have hi' : i < elems.length := by omega
      rw [List.getElem?_eq_getElem hi', Option.bind_eq_some_iff] at h2
      obtain ⟨cs', g1, g2⟩ := h2
      obtain ⟨as, k1, k2, k3⟩ := he cs' _ g2 (fun n hn => hl n (by
        simp only [DataW.weights, ht, List.mem_cons, List.mem_append]
        right; left
        exact all_weights (List.mem_map.2 ⟨_, List.getElem_mem hi', rfl⟩) n hn))
      have k4 := cells_crs g1 k1
      refine ⟨as, ?_, k2, k3⟩
      refine CRs.of_get _ _ fun j b hj => ?_
      obtain ⟨u, m1, m2⟩ := k4.get j b hj
      rw [Nat.zero_add] at m1
      exact ⟨u, by rw [add_add] at m1; exact m1, m2⟩
    obtain ⟨es, e1, e2⟩ := list_choose (l := List.range len) (p := fun i as => CRs (Fz w (phi0 w)) (Sh w) a (i * P.cellsOf e) as ∧ R as ∧ as.length = P.cellsOf e) fun i hi => key i (by simpa using hi)
    simp only [List.length_range] at e1
    have at_ : ∀ k x, es[k]? = some x → CRs (Fz w (phi0 w)) (Sh w) a (k * P.cellsOf e) x ∧ R x ∧ x.length = P.cellsOf e := fun k x hk => by
      have hlt : k < len := by rw [← e1]; exact (List.getElem?_eq_some_iff.1 hk).1
      obtain ⟨y, y1, y2⟩ := e2 k k (by simp [hlt])
      rw [hk] at y1; cases y1
      exact y2
    refine ⟨[.sl false es], .cons ?_ .nil, ⟨es, rfl, ?_, by simp only [maxLen] at hcm; omega, fun x hx => ?_⟩, hc.symm⟩
    · subst e1
      exact .sl (sz := P.cellsOf e) (ERs.of_get _ _ fun k x hk => ⟨(at_ k x hk).2.2, by rw [Nat.zero_add]; exact (at_ k x hk).1⟩) hlc (fun h => by cases h)
    · refine Nat.le_trans (Nat.mul_le_mul_right _ ?_) hlen
      omega
    · obtain ⟨k, hk, rfl⟩ := List.getElem_of_mem hx
      exact (at_ k _ (List.getElem?_eq_getElem hk)).2.1

inductive FieldsL {H : Type} (enc : TypeId × Value → H) (P : Program) (w : World) (n : Nat) : Nat → List Field → List (List AV → Prop) → Prop
  | nil {off : Nat} : FieldsL enc P w n off [] []
  | cons {off : Nat} {f : Field} {fs : List Field} {R : List AV → Prop} {Rs : List (List AV → Prop)} (ho : f.offset = off) (h : OpensL enc P w n f.type R) (hs : FieldsL enc P w n (off + P.cellsOf f.type) fs Rs) : FieldsL enc P w n off (f :: fs) (R :: Rs)

theorem o_struct {t : TypeId} {fs : Array Field} {n : Nat} {Rs : List (List AV → Prop)} (ht : P.underlying t = some (.struct fs)) (hf : FieldsL enc P w n 0 fs.toList Rs) (hsum : P.cellsOf t = (fs.toList.map fun f => P.cellsOf f.type).sum) :
    OpensL enc P w (n + 1) t fun as => Parts Rs as := fun cs x hx hl => by
  obtain ⟨xs, m, hm, ex, hlen, hxs, hat⟩ := DataW.trod_struct ht hx
  cases hm
  subst ex
  have key : ∀ (l : List Field) (off k : Nat) (Rs : List (List AV → Prop)), FieldsL enc P w n off l Rs → (∀ i f, l[i]? = some f → fs[k + i]? = some f) → k + l.length ≤ fs.size → off + (l.map fun f => P.cellsOf f.type).sum = cs.length →
      ∃ as, VRs (Fz w (phi0 w)) (Sh w) (cs.drop off) as ∧ Parts Rs as ∧ as.length = (l.map fun f => P.cellsOf f.type).sum := fun l => by
    induction l with
    | nil =>
      intro off k Rs hF _ _ hsz
      cases hF
      refine ⟨[], ?_, .nil, rfl⟩
      rw [List.drop_eq_nil_of_le (by simp at hsz; omega)]
      exact .nil
    | cons f l ih =>
      intro off k Rs hF hfs hk hsz
      cases hF with
      | cons ho h hs =>
        rename_i R Rs'
        simp only [List.map_cons, List.sum_cons, List.length_cons] at hsz hk
        have hfk := hfs 0 f rfl
        have h1 := hat k f hfk
        have hk' : k < xs.length := by omega
        rw [List.getElem?_eq_getElem hk', ho] at h1
        obtain ⟨as, g1, g2, g3⟩ := h _ _ h1 (fun n hn => hl n (by
          simp only [DataW.weights, ht]
          refine each_weights (i := k) (t := f.type) ?_ ?_ n hn
          · rw [List.getElem?_map]; simp at hfk; simp [hfk]
          · rw [List.getElem?_map, List.getElem?_eq_getElem hk']; rfl))
        obtain ⟨bs, b1, b2, b3⟩ := ih (off + P.cellsOf f.type) (k + 1) Rs' hs (fun i f' hi => by
          have := hfs (i + 1) f' (by simpa using hi)
          rw [show k + 1 + i = k + (i + 1) by omega]; exact this) (by omega) (by omega)
        refine ⟨as ++ bs, ?_, .cons g2 b2, by simp [g3, b3]⟩
        have e : cs.drop off = (cs.drop off).take (P.cellsOf f.type) ++ cs.drop (off + P.cellsOf f.type) := by
          rw [← List.drop_drop, List.take_append_drop]
        rw [e]
        exact g1.append b1
  obtain ⟨as, a1, a2, a3⟩ := key fs.toList 0 0 Rs hf (fun i f hi => by simpa using hi) (by simp) (by rw [hlen, hsum]; omega)
  exact ⟨as, by simpa using a1, a2, by rw [a3, hsum]⟩

theorem Parts.two {R S : List AV → Prop} {as : List AV} (h : Parts [R, S] as) : ∃ x y, as = x ++ y ∧ R x ∧ S y := by
  cases h with | cons h hs => cases hs with | cons h' hs => cases hs; exact ⟨_, _, by simp, h, h'⟩
theorem Parts.head {R : List AV → Prop} {Rs : List (List AV → Prop)} {as : List AV} (h : Parts (R :: Rs) as) : ∃ x y, as = x ++ y ∧ R x ∧ Parts Rs y := by
  cases h with | cons h hs => exact ⟨_, _, rfl, h, hs⟩
theorem Parts.done {as : List AV} (h : Parts [] as) : as = [] := by cases h; rfl

theorem told {α : Type} {c : α → List AV} {p : α → Prop} : ∀ {es : List (List AV)}, (∀ x ∈ es, ∃ a, x = c a ∧ p a) → ∃ l : List α, es = l.map c ∧ ∀ a ∈ l, p a
  | [], _ => ⟨[], rfl, fun _ h => by cases h⟩
  | x :: es, h => by
    obtain ⟨a, rfl, ha⟩ := h x (by simp)
    obtain ⟨l, rfl, hl⟩ := told (es := es) fun y hy => h y (by simp [hy])
    exact ⟨a :: l, rfl, by simpa using ⟨ha, hl⟩⟩
theorem o_list {t e : TypeId} {α : Type} {c : α → List AV} {p : α → Prop} (ht : P.underlying t = some (.slice e)) (hc : P.cellsOf t = 1) {n : Nat} (he : OpensL enc P w n e fun as => ∃ a, as = c a ∧ p a) :
    OpensL enc P w (n + 1) t fun as => ∃ l : List α, as = [.sl false (l.map c)] ∧ l.length * P.bytesOf e ≤ reachBytes ∧ l.length ≤ 9223372036854775807 ∧ ∀ a ∈ l, p a := (o_slice ht hc he).mono fun as ⟨es, h1, h2, h3, h4⟩ => by
  obtain ⟨l, rfl, hl⟩ := told h4
  exact ⟨l, h1, by simpa using h2, by simpa using h3, hl⟩
theorem o_all {t : TypeId} {R : List AV → Prop} (h : ∀ n, OpensL enc P w (n + 1) t R) : ∀ n, OpensL enc P w n t R
  | 0 => OpensL.zero
  | n + 1 => h n

theorem val_one {t : TypeId} {R : List AV → Prop} {v : Value} {d : DataW H} {ps : List MemPlace} (ho : ∀ n, OpensL enc P w n t R) (h : DataW.Trod enc P w 0 (fun _ => true) true t v d ps) (hl : Light P t d) (hv : ∀ cs, v ≠ .agg cs) : ∃ a, VR (Fz w (phi0 w)) (Sh w) v a ∧ R [a] := by
  obtain ⟨n, h⟩ := h
  obtain ⟨as, k1, k2, k3⟩ := ho n _ _ h hl
  have e : v.cells.toList = [v] := by cases v <;> first | rfl | exact absurd rfl (hv _)
  rw [e] at k1
  cases k1 with
  | cons h hs => cases hs; exact ⟨_, h, k2⟩
theorem val_agg {t : TypeId} {R : List AV → Prop} {v : Value} {d : DataW H} {ps : List MemPlace} (ho : ∀ n, OpensL enc P w n t R) (h : DataW.Trod enc P w 0 (fun _ => true) true t v d ps) (hl : Light P t d) (hv : ∃ cs, v = .agg cs) : ∃ as, VR (Fz w (phi0 w)) (Sh w) v (.agg as) ∧ R as := by
  obtain ⟨n, h⟩ := h
  obtain ⟨as, k1, k2, k3⟩ := ho n _ _ h hl
  obtain ⟨⟨cs⟩, rfl⟩ := hv
  exact ⟨as, .agg k1, k2⟩
theorem val_slice {t e : TypeId} {R : List AV → Prop} {v : Value} {d : DataW H} {ps : List MemPlace} {r : Reach} {base : Nat} (ht : P.underlying t = some (.slice e)) (hok : Value.okWide P w r base t v) (ho : ∀ n, OpensL enc P w n t R) (h : DataW.Trod enc P w 0 (fun _ => true) true t v d ps) (hl : Light P t d) : ∃ a, VR (Fz w (phi0 w)) (Sh w) v a ∧ R [a] := by
  obtain ⟨a, len, cap, rfl⟩ := WideShapes.okWide_slice ht hok
  exact val_one ho h hl (fun cs hc => by cases hc)
theorem val_struct {t : TypeId} {fs : Array Field} {R : List AV → Prop} {v : Value} {d : DataW H} {ps : List MemPlace} {r : Reach} {base : Nat} (ht : P.underlying t = some (.struct fs)) (hok : Value.okWide P w r base t v) (ho : ∀ n, OpensL enc P w n t R) (h : DataW.Trod enc P w 0 (fun _ => true) true t v d ps) (hl : Light P t d) : ∃ as, VR (Fz w (phi0 w)) (Sh w) v (.agg as) ∧ R as := by
  obtain ⟨cs, rfl, _⟩ := WideShapes.okWide_struct ht hok
  exact val_agg ho h hl ⟨_, rfl⟩
theorem light_each {t : TypeId} {d : DataW H} {ts : List TypeId} {l : List (DataW H)} (h : (DataW.weightsEach P ts l).all (· ≤ reachBytes) = true) (i : Nat) (ht : ts[i]? = some t) (hd : l[i]? = some d) : Light P t d := fun n hn => by
  rw [List.all_eq_true] at h
  simpa using h n (each_weights ht hd n hn)
end
end Go.AL

/-
  AL, part zd: a library call whose contract says what lies below is as it was; a map's keys, sorted.
-/
set_option linter.unusedSimpArgs false
set_option linter.unusedVariables false
namespace Go.AL
open Go Go.RowKit Go.Maps Go.Sort Go.Proofs Go.WideElems

section
variable {X : Ctx} {H : AHeap} {w w' : World} {φ : Nat → Nat}

theorem Out.of_below (hr : Rel X w φ H) (hb : Below w.heap.size w w') (hdr : X.D → w.drawn ≤ w'.drawn) : Out X H w φ H w' φ := by
  have hfz : ∀ ad u, Fz w φ ad u → Fz w' φ ad u := fun ad u ⟨h1, h2⟩ => by
    refine ⟨?_, h2⟩
    have hlt : ad.block < w.heap.size := by
      rcases Nat.lt_or_ge ad.block w.heap.size with h | h
      · exact h
      · rw [hr.lim _ h] at h2; exact absurd h2 (Nat.not_lt_zero _)
    rw [← h1]
    simp only [World.cell?, hb.block _ hlt]
  have hsh : ∀ b n, Sh w b n → Sh w' b n := fun b n ⟨arr, T, fr, h1, h2⟩ => ⟨arr, T, fr, by rw [hb.block _ (Array.getElem?_eq_some_iff.1 h1).1]; exact h1, h2⟩
  refine ⟨⟨hb.os, hb.tape, hb.output, hb.size, hfz, hsh, fun c hc _ => ⟨hb.block c hc, rfl⟩⟩, ⟨fun c o hc => ?_, fun c hc => hr.lim c (Nat.le_trans hb.size hc), X.mono _ _ hfz hr.env⟩, fun c h => .inl h, hdr⟩
  exact (hr.obj c o hc).keep (hb.block c (hr.lt hc)) rfl hfz hsh

end
end Go.AL

/-
  AL, part ze: what a call makes and hands back, as a slice that is never written again.
-/
set_option linter.unusedSimpArgs false
set_option linter.unusedVariables false
namespace Go.AL
open Go Go.RowKit Go.Maps Go.Sort

section
variable {X : Ctx} {H : AHeap}

theorem VR.loose_sl {F : Addr → Value → Prop} {S : Nat → Nat → Prop} {x : Value} {t : Bool} {es : List (List AV)} (h : VR F S x (.sl t es)) : VR F S x (.sl false es) := by
  cases h with
  | slnil => exact .slnil _
  | sl h1 h2 h3 => exact .sl h1 h2 (fun h => by cases h)
theorem ACall.gr {f : FuncId} {xs : List AV} {e sz : Nat} {es : List (List AV)} {K : AV → AHeap → Prop} (hk : K (.sl false es) H) (h : ACall X f xs H fun a L => ∃ L0, Ext H L0 ∧ Gr e sz L0 es a L) : ACall X f xs H K :=
  ACall.post ⟨h.1, fun w φ ys hr hx => (h.2 w φ ys hr hx).mono fun e' w' ⟨v, av, L, φ', e1, h1, ⟨L0, h2, h3⟩, h4⟩ => by
    rcases h3 with ⟨rfl, rfl, rfl⟩ | ⟨b, hb, rfl, rfl⟩
    · exact ⟨v, .sl false [], L, φ', e1, h1.loose_sl, ⟨_, H, Snap.drop h2, hk⟩, h4⟩
    · refine ⟨v, _, _, φ', e1, h1, ?_, h4⟩
      have h5 := Snap.row (X := X) (as := [.row b sz es.length]) (AHeap.get_put_same b (.row e sz false es) L0)
      simp only [AV.snaps, AV.snap] at h5
      rw [if_pos trivial, if_pos ⟨trivial, Nat.le_refl _⟩, List.take_length] at h5
      exact ⟨_, H, h5.trans (Snap.drop (by rw [AHeap.put_put]; exact Ext.put h2 hb)), hk⟩⟩

theorem Gr.ext {e sz : Nat} {H0 H : AHeap} {es : List (List AV)} {a : AV} (h : Gr e sz H0 es a H) : Ext H0 H := by
  rcases h with ⟨_, _, rfl⟩ | ⟨b, hb, _, rfl⟩
  · exact Ext.refl _
  · exact Ext.fresh hb
theorem snapss_map {α : Type} {b sz : Nat} {es : List (List AV)} {g : α → List AV} (h : ∀ a, AV.snaps b sz es (g a) = g a) : ∀ l : List α, AV.snapss b sz es (l.map g) = l.map g
  | [] => rfl
  | a :: l => by simp only [List.map_cons, AV.snapss, h a, snapss_map h l]
end
end Go.AL

/-
  AL, part zf: what many walks need: numbers, lists by key, values told more loosely, two rows at a time, JSON values.
-/
set_option linter.unusedSimpArgs false
set_option linter.unusedVariables false
namespace Go.AL
open Go

mutual
def AV.loosen : AV → AV
  | .sl _ xs => .sl false (AV.loosenss xs)
  | .agg cs => .agg (AV.loosens cs)
  | .tup cs => .tup (AV.loosens cs)
  | .fp cs => .fp (AV.loosens cs)
  | .fn f as bs => .fn f (AV.loosens as) (AV.loosens bs)
  | .ifc t x => .ifc t (AV.loosen x)
  | .whn c x => .whn c (AV.loosen x)
  | .v x => .v x
  | .s l => .s l
  | .row b z n => .row b z n
  | .rp c z i o => .rp c z i o
  | .vw c z i o => .vw c z i o
  | .top => .top
def AV.loosens : List AV → List AV
  | [] => []
  | x :: xs => AV.loosen x :: AV.loosens xs
def AV.loosenss : List (List AV) → List (List AV)
  | [] => []
  | x :: xs => AV.loosens x :: AV.loosenss xs
end
theorem loosens_length : ∀ l : List AV, (AV.loosens l).length = l.length
  | [] => rfl
  | _ :: l => by simp [AV.loosens, loosens_length l]
theorem loosenss_length : ∀ l : List (List AV), (AV.loosenss l).length = l.length
  | [] => rfl
  | _ :: l => by simp [AV.loosenss, loosenss_length l]
theorem loosenss_map {α : Type} {g : α → List AV} (h : ∀ a, AV.loosens (g a) = g a) : ∀ l : List α, AV.loosenss (l.map g) = l.map g
  | [] => rfl
  | a :: l => by simp only [List.map_cons, AV.loosenss, h a, loosenss_map h l]
section
variable {F : Addr → Value → Prop} {S : Nat → Nat → Prop}
mutual
theorem VR.loosen {x : Value} {a : AV} : VR F S x a → VR F S x (AV.loosen a)
  | .v x => .v x
  | .s b => .s b
  | .agg h => .agg (VRs.loosen h)
  | .tup h => .tup (VRs.loosen h)
  | .slnil t => .slnil false
  | .sl (es := xs) h hc ht => by
    simp only [AV.loosen]
    rw [← loosenss_length xs]
    exact .sl (ERs.loosen h) (by rw [loosenss_length]; exact hc) (fun h => by cases h)
  | .fp h => .fp (CRs.loosen h)
  | .row hs hc hn => .row hs hc hn
  | .rp => .rp
  | .vw hs hc hn hp => .vw hs hc hn hp
  | .fn h h' => .fn (VRs.loosen h) (VRs.loosen h')
  | .ifc h => .ifc (VR.loosen h)
  | .whnT h => .whnT (VR.loosen h)
  | .whnF a => .whnF _
  | .top x => .top x
theorem VRs.loosen {xs : List Value} {as : List AV} : VRs F S xs as → VRs F S xs (AV.loosens as)
  | .nil => .nil
  | .cons h hs => .cons (VR.loosen h) (VRs.loosen hs)
theorem CRs.loosen {ad : Addr} {j : Nat} {as : List AV} : CRs F S ad j as → CRs F S ad j (AV.loosens as)
  | .nil => .nil
  | .cons h hv hs => .cons h (VR.loosen hv) (CRs.loosen hs)
theorem ERs.loosen {ad : Addr} {z i : Nat} {xs : List (List AV)} : ERs F S ad z i xs → ERs F S ad z i (AV.loosenss xs)
  | .nil => .nil
  | .cons hl hc hs => .cons (by rw [loosens_length]; exact hl) (CRs.loosen hc) (ERs.loosen hs)
end
end

section
variable {X : Ctx} {H : AHeap}
theorem Snap.loosen {as : List AV} : Snap X as H (AV.loosens as) H := fun w φ xs hr hx => ⟨φ, hx.loosen, Out.refl hr⟩
theorem ACall.loosen {f : FuncId} {as : List AV} {K : AV → AHeap → Prop} (h : ACall X f (AV.loosens as) H K) : ACall X f as H K := ACall.pre Snap.loosen h
theorem ACall.loose {f : FuncId} {as : List AV} {K : AV → AHeap → Prop} (h : ACall X f as H fun a L => K a.loosen L) : ACall X f as H K :=
  ACall.post ⟨h.1, fun w φ xs hr hx => (h.2 w φ xs hr hx).mono fun e w' ⟨v, av, L, φ', e1, k1, k2, k3⟩ => ⟨v, av, L, φ', e1, k1, ⟨av.loosen, L, Snap.loosen, k2⟩, k3⟩⟩
end
attribute [go_sem] AV.loosen AV.loosens AV.loosenss

def RowAt (e sz : Nat) (H0 L : AHeap) (es : List (List AV)) (a : AV) : Prop :=
  (a = .sl true [] ∧ es = []) ∨ ∃ b, H0.get b = none ∧ a = .row b sz es.length ∧ L.get b = some (.row e sz false es)
def Keeps (e : Nat) (L L' : AHeap) : Prop := ∀ c o, L.get c = some o → (∀ sz sn es, o ≠ .row e sz sn es) → L'.get c = some o
theorem Keeps.refl (e : Nat) (L : AHeap) : Keeps e L L := fun _ _ h _ => h
theorem Keeps.row {e f sz : Nat} {H0 L L' : AHeap} {es : List (List AV)} {a : AV} (h : Keeps e L L') (hne : f ≠ e) (hr : RowAt f sz H0 L es a) : RowAt f sz H0 L' es a := by
  rcases hr with h1 | ⟨b, h1, h2, h3⟩
  · exact .inl h1
  · exact .inr ⟨b, h1, h2, h b _ h3 (fun sz' sn' es' e' => by cases e'; exact hne rfl)⟩
theorem RowAt.nil (e sz : Nat) (H0 L : AHeap) : RowAt e sz H0 L [] (.sl true []) := .inl ⟨rfl, rfl⟩
theorem RowAt.ext {e sz : Nat} {H0 L L' : AHeap} {es : List (List AV)} {a : AV} (h : RowAt e sz H0 L es a) (he : Ext L L') : RowAt e sz H0 L' es a := by
  rcases h with h | ⟨b, h1, h2, h3⟩
  · exact .inl h
  · exact .inr ⟨b, h1, h2, he _ _ h3⟩
theorem RowAt.put {e sz c : Nat} {H0 L : AHeap} {es : List (List AV)} {a : AV} {o o' : AObj} (h : RowAt e sz H0 L es a) (hc : L.get c = some o) (ho : ∀ sz sn es, o ≠ .row e sz sn es) : RowAt e sz H0 (L.put c o') es a := by
  rcases h with h | ⟨b, h1, h2, h3⟩
  · exact .inl h
  · refine .inr ⟨b, h1, h2, ?_⟩
    rw [AHeap.get_put, if_neg]
    · exact h3
    · rintro rfl; rw [h3] at hc; cases hc; exact ho _ _ _ rfl

section
variable {X : Ctx} {L : AHeap}
theorem AApp_at {T e xT e' : TypeId} {s' : Option Nat} {sz by_ : Nat} {H0 : AHeap} {α : Type} {g : α → List AV} {l m : List α} {es nes : List (List AV)} {s : AV} {t : Bool} {K : AV → AHeap → Prop} (hT : elT X.P T = some (e, sz, by_)) (hE : Ext H0 L) (hg : RowAt e sz H0 L es s) (hes : es = l.map g) (hnes : nes = m.map g)
    (ht : tk X.P xT = .sl e' s') (hc : ∀ a, (g a).length = sz ∧ (g a).all AV.one = true)
    (hby : (l.length + m.length) * by_ ≤ 140737488355328) (h63 : l.length + m.length ≤ 9223372036854775807)
    (hK : ∀ s' L', RowAt e sz H0 L' ((l ++ m).map g) s' → Ext H0 L' → Keeps e L L' → K s' L') : AApp X T xT s (.sl t nes) L K := by
  subst hes hnes
  have hsrc : ∀ {M : AHeap}, srcV X.P M sz xT (.sl t (m.map g)) = some (m.map g) := fun {M} => src_sl ht fun c hc' => by
    obtain ⟨a, _, rfl⟩ := List.mem_map.1 hc'
    exact hc a
  have hlen : ∀ c ∈ l.map g, c.length = sz := fun c hc' => by obtain ⟨a, _, rfl⟩ := List.mem_map.1 hc'; exact (hc a).1
  rcases hg with ⟨rfl, h0⟩ | ⟨b, h1, rfl, h3⟩
  · have hl : l = [] := by simpa using h0
    subst hl
    refine AApp_tight hT (by simp) hsrc (by simpa using hby) (by simpa using h63) (fun hn => ?_) (fun hn b' hb' => ?_)
    · have hm : m = [] := by simpa using hn
      subst hm
      exact hK _ _ (.inl ⟨rfl, rfl⟩) hE (Keeps.refl _ _)
    · refine hK _ _ (.inr ⟨b', ?_, by simp, by rw [AHeap.get_put_same]; rfl⟩) (hE.put hb') (fun c o h _ => Ext.fresh hb' c o h)
      cases hx : H0.get b' with
      | none => rfl
      | some o => rw [hE b' o hx] at hb'; cases hb'
  · refine AApp_row hT h3 rfl hsrc (by simpa using hby) (by simpa using h63) (fun b' hb' => ?_)
    have hH0 : H0.get b' = none := by
      cases hx : H0.get b' with
      | none => rfl
      | some o =>
        have := hE b' o hx
        rw [AHeap.get_del] at hb'
        split at hb'
        · rename_i e1; subst e1; rw [h1] at hx; cases hx
        · rw [this] at hb'; cases hb'
    have keep : ∀ c o, L.get c = some o → c ≠ b → ((L.del b).put b' (.row e sz false (l.map g ++ m.map g))).get c = some o := fun c o h hcb => by
      rw [AHeap.get_put, if_neg, AHeap.get_del, if_neg hcb]
      · exact h
      · rintro rfl
        rw [AHeap.get_del, if_neg hcb, h] at hb'; cases hb'
    refine hK _ _ (.inr ⟨b', hH0, by simp, by rw [AHeap.get_put_same, List.map_append]⟩) (fun c o h => keep c o (hE c o h) (by rintro rfl; rw [h1] at h; cases h)) (fun c o h ho => keep c o h (by rintro rfl; rw [h3] at h; cases h; exact ho _ _ _ rfl))
end

theorem AWp.snapBox {X : Ctx} {H : AHeap} {N : NR} {c : Code} {Q : Exit → AFr → AHeap → Prop} {fr : AFr} {p b sz : Nat} {T T2 : TypeId} {sn : Bool} {es : List (List AV)} {cs : List AV} (hb : H.get b = some (.row T sz sn es)) (hp : H.get p = some (.box T2 cs))
    (h : AWp X N c Q (AFr.snap b sz es fr) ((H.put b (.row T sz true es)).put p (.box T2 (AV.snaps b sz es cs)))) : AWp X N c Q fr H := fun a w φ H0 w0 φ0 hf hd hr ho => by
  obtain ⟨h1, h2⟩ := phi_row hr hb
  have hpb : p ≠ b := by rintro rfl; rw [hb] at hp; cases hp
  have hp1 : (H.put b (.row T sz true es)).get p = some (.box T2 cs) := by rw [AHeap.get_put, if_neg hpb]; exact hp
  obtain ⟨k1, arr, k2, k3⟩ := h1.rel.obj p _ hp1
  obtain ⟨_, arr', k4, k5⟩ := hr.obj p _ hp
  rw [k4] at k2; cases k2
  have h3 : Out X H w φ ((H.put b (.row T sz true es)).put p (.box T2 (AV.snaps b sz es cs))) w (fun c => if c = b then es.length * sz else φ c) :=
    ⟨h1.step, ⟨fun d x hd => by
      rw [AHeap.get_put] at hd
      split at hd
      · rename_i e; subst e; cases hd; exact ⟨k1, _, k4, k5.snap h1.step.fz h2⟩
      · exact h1.rel.obj d x hd, h1.rel.lim, h1.rel.env⟩, fun d hd => by
      rw [AHeap.get_put] at hd
      split at hd
      · rename_i e; subst e; left; rw [hp]; simp
      · exact h1.dom d hd, h1.drawn⟩
  exact h a w _ H0 w0 φ0 ⟨hf.size, fun t => by rw [AFr.get_snap]; exact (hf.at_ t).snap h1.step.fz h2⟩ (hd.out h3) h3.rel (ho.trans h3)

theorem blt_eq : ∀ a b : List UInt8, blt a b = decide (a < b)
  | [], [] => by simp [blt, Op.bytesLess]
  | [], _ :: _ => by simp [blt, Op.bytesLess]
  | _ :: _, [] => by simp [blt, Op.bytesLess]
  | a :: x, b :: y => by
    have ih := blt_eq x y
    unfold blt at ih ⊢
    rw [Op.bytesLess, ih]
    simp only [List.cons_lt_cons_iff]
    by_cases h1 : a < b <;> by_cases h2 : a = b <;> by_cases h3 : x < y <;> simp [h1, h2, h3]
theorem gtr_eq (a b : List UInt8) : (!(blt a b || decide (a = b))) = decide (b < a) := by
  rw [blt_eq]
  by_cases h1 : a < b
  · have : ¬ b < a := fun h2 => List.lt_irrefl a (List.lt_trans h1 h2)
    simp [h1, this]
  · by_cases h2 : a = b
    · subst h2; simp [List.lt_irrefl]
    · have h3 : b < a := by
        by_cases h : b < a
        · exact h
        · exact absurd (List.le_antisymm (show a ≤ b from h) (show b ≤ a from h1)) h2
      simp [h1, h2, h3]

theorem Gr.row {e sz : Nat} {H0 H : AHeap} {es : List (List AV)} {a : AV} (h : Gr e sz H0 es a H) (hne : es ≠ []) : ∃ b, H0.get b = none ∧ a = .row b sz es.length ∧ H = H0.put b (.row e sz false es) := by
  rcases h with ⟨_, h, _⟩ | h
  · exact absurd h hne
  · exact h
theorem Ext.set {A B : AHeap} {p : Nat} {x y : AObj} (h : Ext (A.put p x) B) : Ext (A.put p y) (B.put p y) := by
  have := Ext.both h p y
  rwa [AHeap.put_put] at this
theorem none_of_ext {A B : AHeap} {c : Nat} (h : Ext A B) (hc : B.get c = none) : A.get c = none := by
  cases hx : A.get c with
  | none => rfl
  | some o => rw [h c o hx] at hc; cases hc

theorem RowAt.row {e sz : Nat} {H0 L : AHeap} {es : List (List AV)} {a : AV} (h : RowAt e sz H0 L es a) (hne : es ≠ []) : ∃ b, H0.get b = none ∧ a = .row b sz es.length ∧ L.get b = some (.row e sz false es) := by
  rcases h with ⟨_, h⟩ | h
  · exact absurd h hne
  · exact h
theorem Snap.rowAt {X : Ctx} {e sz : Nat} {H0 L : AHeap} {es : List (List AV)} {a : AV} {pre post : List AV} (h : RowAt e sz H0 L es a) (hpre : ∀ b sz es, AV.snaps b sz es pre = pre) (hpost : (∃ b, a = .row b sz es.length) → ∀ b, a = .row b sz es.length → AV.snaps b sz es post = post) :
    ∃ L', Snap X [.agg (pre ++ a :: post)] L [.agg (pre ++ .sl false es :: post)] L' ∧ (∀ c o, L.get c = some o → (∀ sz sn es, o ≠ .row e sz sn es) → L'.get c = some o) ∧ ∀ c o, H0.get c = some o → L.get c = some o → L'.get c = some o := by
  rcases h with ⟨rfl, rfl⟩ | ⟨b, h1, rfl, h3⟩
  · refine ⟨L, fun w φ xs hr hx => ⟨φ, ?_, Out.refl hr⟩, fun c o h _ => h, fun c o _ h => h⟩
    cases hx with
    | cons h t =>
      cases t
      cases h with
      | agg h =>
        refine .cons (.agg ?_) .nil
        have : ∀ {pre : List AV} {vs : List Value}, VRs (Fz w φ) (Sh w) vs (pre ++ .sl true [] :: post) → VRs (Fz w φ) (Sh w) vs (pre ++ .sl false [] :: post) := fun {pre} => by
          induction pre with
          | nil => intro vs h; cases h with | cons h t => exact .cons h.loose_sl t
          | cons x pre ih => intro vs h; cases h with | cons h t => exact .cons h (ih t)
        exact this h
  · refine ⟨L.put b (.row e sz true es), ?_, fun c o h ho => ?_, fun c o h0 h => ?_⟩
    · have h5 := Snap.row (X := X) (as := [.agg (pre ++ .row b sz es.length :: post)]) h3
      simp only [AV.snaps, AV.snap, snaps_append, hpre b sz es, hpost ⟨b, rfl⟩ b rfl, if_true, Nat.le_refl, and_self, List.take_length] at h5
      exact h5
    · rw [AHeap.get_put, if_neg]
      · exact h
      · rintro rfl; rw [h3] at h; cases h; exact ho _ _ _ rfl
    · rw [AHeap.get_put, if_neg]
      · exact h
      · rintro rfl; rw [h1] at h0; cases h0
theorem snap_two {X : Ctx} {e1 e2 sz1 sz2 : Nat} {H0 L : AHeap} {es1 es2 : List (List AV)} {a c : AV} {pre : List AV} (h1 : RowAt e1 sz1 H0 L es1 a) (h2 : RowAt e2 sz2 H0 L es2 c) (hE : Ext H0 L) (hne : e2 ≠ e1) (hpre : ∀ b sz es, AV.snaps b sz es pre = pre)
    (k1 : ∀ b sz es, AV.snapss b sz es es1 = es1) : Snap X [.agg (pre ++ [a, c])] L [.agg (pre ++ [.sl false es1, .sl false es2])] H0 := by
  obtain ⟨L1, s1, p1, q1⟩ := Snap.rowAt (X := X) (pre := pre) (post := [c]) h1 hpre (fun _ b hb => by
    rcases h2 with ⟨rfl, _⟩ | ⟨b2, _, rfl, g2⟩
    · simp [AV.snaps, AV.snap, AV.snapss]
    · have : b2 ≠ b := by
        rintro rfl
        rcases h1 with ⟨rfl, _⟩ | ⟨b1, _, rfl, g1⟩
        · cases hb
        · cases hb; rw [g1] at g2; cases g2; exact hne rfl
      simp [AV.snaps, AV.snap, this])
  have h2' : RowAt e2 sz2 H0 L1 es2 c := by
    rcases h2 with h | ⟨b2, g0, rfl, g2⟩
    · exact .inl h
    · exact .inr ⟨b2, g0, rfl, p1 b2 _ g2 (fun sz sn es e => by cases e; exact hne rfl)⟩
  obtain ⟨L2, s2, p2, q2⟩ := Snap.rowAt (X := X) (pre := pre ++ [.sl false es1]) (post := []) h2' (fun b sz es => by rw [snaps_append, hpre]; simp only [AV.snaps, AV.snap, k1]) (fun _ _ _ => rfl)
  rw [List.append_assoc, List.append_assoc] at s2
  exact (s1.trans s2).trans (Snap.drop fun b o h => q2 b o h (q1 b o h (hE b o h)))

section
variable {X : Ctx} {N : NR} {ops : Array Oper}
theorem AWp_drawH {id : Nat} {tab : Array (List Nat)} {E T : List Nat} {m : Nat} {lE lT : List Oper} {Q : Exit → AFr → AHeap → Prop} {fr : AFr} {H Hs : AHeap} (hs : Ext Hs H) (hm : X.P.follows .mixedOrders = true) (hok : drawOk ops tab E T m = true)
    (hE : opsOf ops E = lE) (hT : opsOf ops T = lT) (h : AE X N ops Hs lE (fun fr' => AT X N Hs m lT (fun fr H => Q .normal fr H) fr' H) fr) : AWp X N (.region id ops true) Q fr H := fun a w φ H0 w0 φ0 hf hd hr ho => by
  subst hE hT
  simp only [drawOk, Bool.and_eq_true, List.all_eq_true, Bool.or_eq_true, List.contains_iff_mem, List.mem_range, Bool.not_eq_true'] at hok
  obtain ⟨⟨⟨⟨⟨⟨h1, h2⟩, h3⟩, h4⟩, h5⟩, h6⟩, h7⟩ := hok
  have hr' : Rel X { w with drawn := w.drawn + 1 } φ H := ⟨fun b o hb => hr.obj b o hb, hr.lim, hr.env⟩
  have ho' : Out X H w φ H { w with drawn := w.drawn + 1 } φ := ⟨⟨rfl, rfl, rfl, Nat.le_refl _, fun _ _ h => h, fun _ _ h => h, fun _ _ _ => ⟨rfl, rfl⟩⟩, hr', fun _ h => .inl h, fun _ => Nat.le_add_right _ _⟩
  refine wpIn_region_any hm (drawn h1 (E := E) (H0 := Hs) (K := fun fr H => ∃ fr', Same fr' fr ∧ Q .normal fr' H) (fun g g' H ⟨f, k1, k2⟩ hs => ⟨f, k1.trans hs, k2⟩) (fun fr H ⟨f, k1, k2⟩ => ⟨f, fun t => (k1 t).symm, k2⟩) ops.size (Array.replicate ops.size false) E T m a _ φ fr H (by simp) (fun i hi => ?_) (fun i hi => ?_) (fun i hi => ?_) (fun i hi => ?_) h5 (fun i hi => hi) h6 ?_ (hf.out ho') hd hr' (ho.trans ho') (.inl hs) ?_)
  · exfalso
    rw [Array.getD_eq_getD_getElem?, Array.getElem?_replicate] at hi
    split at hi <;> cases hi
  · rw [Array.getD_eq_getD_getElem?, Array.getElem?_replicate] at hi
    split at hi
    · rename_i hlt; exact h2 i hlt
    · cases hi
  · have hlt : i < ops.size := by
      rcases hi with hi | hi
      · exact (by simpa using (h3 i hi).1 : i < ops.size)
      · exact (by simpa using h4 i hi : i < ops.size)
    rw [Array.getD_eq_getD_getElem?, Array.getElem?_replicate, if_pos hlt]; rfl
  · intro hT
    have := (h3 i hi).2
    rw [List.contains_eq_mem] at this
    simp [hT] at this
  · refine AE_mono h (Same.refl _) fun g g' k hs => ?_
    exact AT_same (fun g g' H ⟨f, k1, k2⟩ hs => ⟨f, k1.trans hs, k2⟩) (AT_mono (fun fr H q => ⟨fr, Same.refl _, q⟩) k) hs
  · exact (by simpa using h7 : E.length + T.length ≤ ops.size)

theorem AWp_drawAH (E T : List Nat) (m : Nat) {id : Nat} {lE lT : List Oper} {Q : Exit → AFr → AHeap → Prop} {fr : AFr} {H Hs : AHeap} (hs : Ext Hs H) (hm : X.P.follows .mixedOrders = true) (hok : drawOk ops (ancTab ops) E T m = true)
    (hE : opsOf ops E = lE) (hT : opsOf ops T = lT) (h : AE X N ops Hs lE (fun fr' => AT X N Hs m lT (fun fr H => Q .normal fr H) fr' H) fr) : AWp X N (.region id ops true) Q fr H := AWp_drawH hs hm hok hE hT h
end
def AHeap.less (e : Nat) (H : AHeap) : AHeap := fun b => match H b with
  | some (.row T sz sn es) => if T = e then none else some (.row T sz sn es)
  | o => o
theorem less_get {e b : Nat} {H : AHeap} {o : AObj} (h : H.get b = some o) (ho : ∀ sz sn es, o ≠ .row e sz sn es) : (AHeap.less e H).get b = some o := by
  simp only [AHeap.get, AHeap.less] at h ⊢
  rw [h]
  cases o with
  | row T sz sn es =>
    simp only
    rw [if_neg]
    rintro rfl; exact ho _ _ _ rfl
  | box => rfl
  | smap => rfl
  | imap => rfl
  | loop => rfl
  | kmap => rfl
  | walk => rfl
  | siter => rfl
theorem get_less {e b : Nat} {H : AHeap} {o : AObj} (h : (AHeap.less e H).get b = some o) : H.get b = some o ∧ ∀ sz sn es, o ≠ .row e sz sn es := by
  simp only [AHeap.get, AHeap.less] at h ⊢
  split at h
  · rename_i T sz sn es hx
    split at h
    · cases h
    · rename_i hne
      cases h
      exact ⟨hx, fun _ _ _ h => by cases h; exact hne rfl⟩
  · rename_i hx
    refine ⟨h, fun sz sn es e' => ?_⟩
    subst e'
    exact hx _ _ _ _ h
theorem less_ext (e : Nat) (H : AHeap) : Ext (AHeap.less e H) H := fun b o h => (get_less h).1
theorem Keeps.less {e : Nat} {H H' : AHeap} (h : Keeps e H H') : Ext (AHeap.less e H) H' := fun b o hb => h b o (get_less hb).1 (get_less hb).2
theorem RowAt.base {e sz : Nat} {H0 H1 L : AHeap} {es : List (List AV)} {a : AV} (h : RowAt e sz H1 L es a) (he : Ext H0 H1) : RowAt e sz H0 L es a := by
  rcases h with h | ⟨b, h1, h2, h3⟩
  · exact .inl h
  · exact .inr ⟨b, none_of_ext he h1, h2, h3⟩
end Go.AL
