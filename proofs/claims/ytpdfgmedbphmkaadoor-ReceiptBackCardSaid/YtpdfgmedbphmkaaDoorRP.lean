/-
  The document's Num and Put. Contracts.
-/
import Derived.Test.YtpdfgmedbphmkaaDoorCH
set_option linter.unusedSimpArgs false
set_option linter.unusedVariables false
set_option maxRecDepth 100000
namespace Go.Proofs.YtpdfgmedbphmkaaDoor
open Go Go.AL
attribute [local irreducible] AOps AWp SOps AE AT ACall AApp

def numJ (n : Int) : J := .mk 2 n [] [] []
end Go.Proofs.YtpdfgmedbphmkaaDoor
