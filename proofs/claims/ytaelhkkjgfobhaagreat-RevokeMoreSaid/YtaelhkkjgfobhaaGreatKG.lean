/-
 Trees of credentials: the document's chains, those above, all of a cart.
-/
import Derived.Test.YtaelhkkjgfobhaaGreatK6
import Derived.Test.YtaelhkkjgfobhaaGreatKJ
import Derived.Test.YtaelhkkjgfobhaaGreatKB
import Derived.Test.YtaelhkkjgfobhaaGreatKE
import Derived.Test.YtaelhkkjgfobhaaGreatK5
set_option linter.unusedSectionVars false
set_option linter.unusedVariables false
set_option linter.unusedSimpArgs false
namespace Go.Proofs.YtaelhkkjgfobhaaGreat
open Go.Sl Go.Proofs
attribute [local irreducible] SW RW aM SC ak au
section
variable {l:List ag} (hlen:l.length<4611686018427387904) (hl:∀ x,x∈l→x.bp<256) {T:Tr} (h:nX l T)
include hlen hl h
end
end Go.Proofs.YtaelhkkjgfobhaaGreat
