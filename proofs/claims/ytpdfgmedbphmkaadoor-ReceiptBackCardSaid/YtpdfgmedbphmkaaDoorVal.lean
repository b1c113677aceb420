/-
  The kit's contract of utf8.ValidString at this program, as a contract here.
-/
import Derived.Test.YtpdfgmedbphmkaaDoorCB
import Derived.Test.YtpdfgmedbphmkaaDoorAL4
set_option linter.unusedVariables false
namespace Go.Proofs.YtpdfgmedbphmkaaDoor
open Go Go.AL
theorem valid_c : ValidC Lib.validD := fun l H K hl h => ⟨by kernel_rfl, fun w φ xs hr hx => by
  have hx' : xs = [.string ⟨l.toArray⟩] := by
    cases hx with
    | cons h t => cases t; rw [strKey.inv h]; rfl
  subst hx'
  obtain ⟨_, h1, h2⟩ := hr.env
  have hT : Lib.Utf8Tabs 0 1 w := ⟨fun c hc => (h1 c hc).1, fun i hi => ⟨(h2 i hi).1.1, (h2 i hi).2.1⟩⟩
  refine (Any.utf8_ValidString Tryd.lays196 ⟨l.toArray⟩ w (by simpa [ByteArray.size] using hl) hT).mono fun e w' ⟨he, hb⟩ => ?_
  exact ⟨_, .v (.bool (Lib.validD l)), H, φ, by simpa using he, .v _, h, Out.of_below hr hb (fun hd => False.elim hd)⟩⟩
end Go.Proofs.YtpdfgmedbphmkaaDoor
