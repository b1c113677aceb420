/-
  JSON values in a seat without the program's canon. (Stands where CH stands: SUB='CH=JB'.)
-/
import Derived.Test.YtmloandpjbimkaaW25A
import Derived.Test.YtmloandpjbimkaaB64
set_option linter.unusedSimpArgs false
set_option linter.unusedVariables false
set_option maxRecDepth 100000
namespace Go.Proofs.Ytmloandpjbimkaa
open Go Go.AL
attribute [local irreducible] AOps AWp SOps AE AT ACall AApp

theorem zc_json : zC X.P 25 = some [.v (.int .i64 0), .v (.int .i64 0), .s [], .sl true [], .sl true []] := zc_25
theorem jget_at {l : List J} {i : Nat} {c : J} (h : l[i]? = some c) : (l.map J.cells)[i]? = some [.v (.int .i64 c.kind), .v (.int .i64 c.int), .s c.text, .sl false (c.keys.map strCells), .sl false (c.list.map J.cells)] := by
  rw [List.getElem?_map, h, ← J.cells_eq]; rfl
theorem jstr_at {l : List (List UInt8)} {i : Nat} {c : List UInt8} (h : l[i]? = some c) : (l.map strCells)[i]? = some [.s c] := by rw [List.getElem?_map, h]; rfl
abbrev jbox (k n : Int) (t : List UInt8) (a c : AV) : AObj := .box 25 [.v (.int .i64 k), .v (.int .i64 n), .s t, a, c]
end Go.Proofs.Ytmloandpjbimkaa
