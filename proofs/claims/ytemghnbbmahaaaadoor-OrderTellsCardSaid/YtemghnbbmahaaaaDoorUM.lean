/-
  A region in one step whose order conditions want facts.
-/
import Derived.Test.YtemghnbbmahaaaaDoorUK
import Derived.Test.YtemghnbbmahaaaaDoorUL
set_option linter.unusedVariables false
set_option linter.unusedSimpArgs false
set_option linter.unusedSectionVars false
namespace Go.Sl
section
variable {P : Program} {N k0 : Nat} {st stF : St} {Q : Exit → St → Prop} {sis : List SI} {bs : List Nat} {draw : Bool} {Φ C X : Prop}
end
end Go.Sl
namespace Go.Sl
open Go.RowKit
variable {P : Program}
end Go.Sl
