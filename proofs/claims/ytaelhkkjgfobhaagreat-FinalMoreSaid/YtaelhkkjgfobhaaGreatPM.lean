/-
 Shapes: the document's lines, versions, targets; why.
-/
import Derived.Test.YtaelhkkjgfobhaaGreatP6
import Derived.Test.YtaelhkkjgfobhaaGreatPL
import Derived.Test.YtaelhkkjgfobhaaGreatPE
set_option linter.unusedSectionVars false
set_option linter.unusedVariables false
set_option linter.unusedSimpArgs false
namespace Go.Proofs.YtaelhkkjgfobhaaGreat
open Go.Sl Go.Proofs
section
section
attribute [local irreducible] SW RW aF SC aj ak
variable (l:List ag) (hl:l.length<1000000000) (hr:∀ x,x∈l→x.bn<256)
include hl hr
end
end
section
section
attribute [local irreducible] SW RW aF SC aj ak
variable (l:List ag) (hl:l.length<1000000000) (hr:∀ x,x∈l→x.bn<256)
include hl hr
end
end
section
section
attribute [local irreducible] SW RW aF SC aj ak
variable (l:List ag) (hl:l.length≤80) (hd:∀ x,x∈l→x.bn<256∧x.mS∧x.dot.wf)
include hl hd
end
end
end Go.Proofs.YtaelhkkjgfobhaaGreat
