/-
 Trees of credentials: the document's chains, those above, all of a cart.
-/
import Derived.Test.YtaelhkkjgfobhaaGreatP6
import Derived.Test.YtaelhkkjgfobhaaGreatPJ
import Derived.Test.YtaelhkkjgfobhaaGreatPB
import Derived.Test.YtaelhkkjgfobhaaGreatPE
import Derived.Test.YtaelhkkjgfobhaaGreatP5
set_option linter.unusedSectionVars false
set_option linter.unusedVariables false
set_option linter.unusedSimpArgs false
namespace Go.Proofs.YtaelhkkjgfobhaaGreat
open Go.Sl Go.Proofs
attribute [local irreducible] SW RW aF SC aj ak
section
variable {l:List ag} (hlen:l.length<4611686018427387904) (hl:∀ x,x∈l→x.bn<256) {T:Tr} (h:o9 l T)
include hlen hl h
end
end Go.Proofs.YtaelhkkjgfobhaaGreat
