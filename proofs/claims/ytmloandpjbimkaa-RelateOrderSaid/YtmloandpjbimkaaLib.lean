/-
  Contracts of the library, laid at this program.
-/
import Derived.Shelf.SlGeneric
import Derived.Test.YtmloandpjbimkaaProg
import Derived.Shelf.Strings.Cut
import Derived.Shelf.LaysM
import Derived.Shelf.Strings.Shaped
import Derived.Shelf.Unicode.ValidAny
import Derived.Ground.NamesProg
import Derived.Shelf.Lays
import Derived.Test.YtmloandpjbimkaaTy
import Derived.Test.YtmloandpjbimkaaAL4
namespace Go.Proofs
open Go.Shelf
namespace Ytmloandpjbimkaa
open Go.AL
end Ytmloandpjbimkaa
end Go.Proofs
