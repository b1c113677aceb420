/-
  What every row of this seat needs: the laid tables and the bound of the library, out of the row's condition; the arguments opened.
-/
import Derived.Test.YtniaafncmnilgaaDoorRows
import Derived.HandedShaped
import Derived.RowKit
import Derived.Lay
import Derived.LaidMore
import Derived.Lib.LaidU8T
import Derived.ProofKit
import Derived.Test.YtniaafncmnilgaaDoorAL2
import Derived.Test.YtniaafncmnilgaaDoorL10A
import Derived.Test.YtniaafncmnilgaaDoorLib
set_option linter.unusedSimpArgs false
set_option linter.unusedVariables false
set_option maxRecDepth 100000
namespace Go.Proofs.YtniaafncmnilgaaDoor
open Go Go.AL Go.RowKit Go.ChangeShapes Go.WideShapes Go.Proofs

theorem own : ownKnob Tryd.prog.godebug = none := by kernel_rfl
theorem laidOut : laidOutB Tryd.prog = true := by kernel_rfl
/-- what the rows of this seat list -/
def seatLaid : List (String × DataW Unit) := [("unicode/utf8.acceptRanges", Rows.laid_unicode_utf8_acceptRanges), ("unicode/utf8.first", Rows.laid_unicode_utf8_first)]
theorem gam {W : World} (h : W.ShapedOpen Tryd.prog) (hL : laidMetH Tryd.prog seatLaid W) : X.Γ (Fz W (phi0 W)) := by
  obtain ⟨m, hm⟩ := Tryd.laysM219.s1_3 W h
  rw [MakeChecks.laidMetH_plain _ _ _ (by kernel_rfl)] at hL
  have hT : Lib.Utf8Tabs 0 1 W := utf8Tabs_of_readsT (U8Types.of196 Tryd.lays196) ⟨by kernel_rfl, by kernel_rfl, by kernel_rfl, by kernel_rfl, by kernel_rfl, by kernel_rfl, by kernel_rfl⟩ (Lib.laidMet.reads hL (.tail _ (.head _))) (Lib.laidMet.reads hL (.head _))
  exact ⟨⟨m, fz0 hm⟩, fun c hc => fz0 (hT.1 c hc), fun i hi => ⟨fz0 (hT.2 i hi).1, fz0 (hT.2 i hi).2⟩⟩

/-- the wrap that hands on both what is listed and the world's shape -/
theorem wrap_both {H : Type} {enc : TypeId × Value → H} {a : Assume} {C : Checked} {os : Os} {f : FuncId} {fn : Func} {s : ChangeSpec} {conds : List PathCond} {apart fresh handsOn again : Bool} {Y : World → Prop}
    (hY : ∀ w w' : World, w.heap = w'.heap → Y w → Y w') (hown : ownKnob C.prog.godebug = none) (started : os.Started) (noInit : C.prog.inits.idxOf? f = none) (hfn : C.prog.funcs[f]? = some fn)
    (witness : ∃ (w : World) (tape : Tape) (i : Input), w.os = os ∧ (w.forCall tape i).Shaped C.prog ∧ i.vars = [] ∧ Input.okWide C.prog (w.forCall tape i) .any w.heap.size f i ∧
      ((s.pre enc C.prog fn conds apart (w.forCall tape i).memory i.args ∧ Y (w.forCall tape i).memory) ∧ sizedMet enc C.prog fn (OpenSpec.ofChange s) apart (w.forCall tape i).memory i.args) ∧ a.holds C.prog (lone (Frame.enter C.prog f i.args .normal) [] (w.forCall tape i)))
    (contract : ∀ (W : World) (base : Nat) (args : Array Value) (ds gs : List (DataW H)) (before : List MemPlace), (∀ (j : Nat) t v, fn.params[j]? = some t → args[j]? = some v → Value.okWide C.prog W .any base t v) → DataW.Whole enc C.prog fn.params.toList s.vars apart W args.toList ds gs before →
      (DataW.weightsEach C.prog (fn.params.toList ++ s.plain.varTypes C.prog) (ds ++ gs)).all (· ≤ reachBytes) = true → W.ShapedOpen C.prog → Y W → Calls C.prog f args W fun e W' => ∃ v, e = .returned v ∧ s.post enc C.prog fn apart fresh handsOn again W args v W') :
    ReturnsInHanded a C os f .any (fun w args => (s.pre enc C.prog fn conds apart w args ∧ Y w) ∧ sizedMet enc C.prog fn (OpenSpec.ofChange s) apart w args) (s.post enc C.prog fn apart fresh handsOn again) :=
  returnsInHanded_of_calls hown started noInit witness fun w tape i _ hsh _ hok hpre _ => by
    obtain ⟨_, _, _, fn', hfn', _, _, _, _, hval⟩ := hok
    cases Option.some.inj (hfn'.symm.trans hfn)
    obtain ⟨⟨⟨ds, gs, before, hw, _⟩, hy⟩, hz⟩ := hpre
    refine (contract (w.forCall tape i) w.heap.size i.args ds gs before hval (DataW.Whole.of_heap (by rfl) hw) (hz.weights hw) hsh (hY _ _ (by rfl) hy)).mono fun e W' ⟨v, he, hp⟩ => ?_
    subst he
    exact ChangeSpec.post_blind hp
section
variable {H : Type} {enc : TypeId × Value → H} {w : World}
theorem o_9 (n : Nat) : OpensL enc X.P w n 9 fun xs => ∃ l : List UInt8, xs = strCells l ∧ l.length ≤ reachBytes := o_str Tryd.underlying9 (by kernel_rfl) n
theorem o_2 (n : Nat) : OpensL enc X.P w n 2 fun xs => ∃ i, xs = [.v (.int .i64 i)] ∧ -9223372036854775808 ≤ i ∧ i < 9223372036854775808 := o_i64 Tryd.underlying2 (by kernel_rfl) n
theorem o_32 : ∀ n, OpensL enc X.P w n 32 fun xs => ∃ x : Nm, xs = nmCells x ∧ x.1.length ≤ reachBytes :=
  o_all fun n => (o_struct Tryd.underlying32 (.cons rfl (o_9 n) (.cons (by kernel_rfl) (o_2 n) .nil)) (by kernel_rfl)).mono fun xs h => by
    obtain ⟨x, y, rfl, ⟨l, rfl, h1⟩, ⟨i, rfl, h2⟩⟩ := Parts.two h
    exact ⟨(l, i), rfl, h1⟩
theorem o_22 : ∀ n, OpensL enc X.P w n 22 fun xs => ∃ l : List Nm, xs = [.sl false (l.map nmCells)] ∧ l.length ≤ 9223372036854775807 :=
  o_all fun n => (o_list Tryd.underlying22 (by kernel_rfl) (o_32 n)).mono fun xs h => by
    obtain ⟨l, rfl, _, h2, h3⟩ := h
    exact ⟨l, rfl, h2⟩
theorem o_24 : ∀ n, OpensL enc X.P w n 24 fun xs => ∃ l : Lv, xs = l.cells ∧ l.Wide :=
  o_all fun n => (o_struct Tryd.underlying24 (.cons rfl (o_2 n) (.cons (by kernel_rfl) (o_2 n) (.cons (by kernel_rfl) (o_2 n) (.cons (by kernel_rfl) (o_2 n) (.cons (by kernel_rfl) (o_2 n) (.cons (by kernel_rfl) (o_2 n) (.cons (by kernel_rfl) (o_2 n) (.cons (by kernel_rfl) (o_22 n) (.cons (by kernel_rfl) (o_22 n) .nil))))))))) (by kernel_rfl)).mono fun xs h => by
    obtain ⟨x1, y1, rfl, ⟨a1, rfl, _⟩, k1⟩ := Parts.head h
    obtain ⟨x2, y2, rfl, ⟨a2, rfl, _⟩, k2⟩ := Parts.head k1
    obtain ⟨x3, y3, rfl, ⟨a3, rfl, _⟩, k3⟩ := Parts.head k2
    obtain ⟨x4, y4, rfl, ⟨a4, rfl, _⟩, k4⟩ := Parts.head k3
    obtain ⟨x5, y5, rfl, ⟨a5, rfl, _⟩, k5⟩ := Parts.head k4
    obtain ⟨x6, y6, rfl, ⟨a6, rfl, _⟩, k6⟩ := Parts.head k5
    obtain ⟨x7, y7, rfl, ⟨a7, rfl, _⟩, k7⟩ := Parts.head k6
    obtain ⟨x8, y8, rfl, ⟨l8, rfl, w8⟩, k8⟩ := Parts.head k7
    obtain ⟨x9, y9, rfl, ⟨l9, rfl, w9⟩, k9⟩ := Parts.head k8
    obtain rfl := Parts.done k9
    exact ⟨⟨a1, a2, a3, a4, a5, a6, a7, l8, l9⟩, rfl, w8, w9⟩
end
end Go.Proofs.YtniaafncmnilgaaDoor
