/-
 Trees of credentials: the document's chains, those above, all of a cart.
-/
import Derived.Test.YtaelhkkjgfobhaaGreatU6
import Derived.Test.YtaelhkkjgfobhaaGreatUJ
import Derived.Test.YtaelhkkjgfobhaaGreatUB
import Derived.Test.YtaelhkkjgfobhaaGreatUE
import Derived.Test.YtaelhkkjgfobhaaGreatU5
set_option linter.unusedSectionVars false
set_option linter.unusedVariables false
set_option linter.unusedSimpArgs false
namespace Go.Proofs.YtaelhkkjgfobhaaGreat
open Go.Sl Go.Proofs
attribute [local irreducible] SW RW aF SC aj ak
section
variable {l:List ag} (hlen:l.length<4611686018427387904) (hl:∀ x,x∈l→x.bn<256) {T:Tr} (h:o9 l T)
include hlen hl h
end
end Go.Proofs.YtaelhkkjgfobhaaGreat
