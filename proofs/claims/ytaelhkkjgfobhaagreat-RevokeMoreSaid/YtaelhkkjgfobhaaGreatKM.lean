/-
 Shapes: the document's lines, versions, targets; why.
-/
import Derived.Test.YtaelhkkjgfobhaaGreatK6
import Derived.Test.YtaelhkkjgfobhaaGreatKL
import Derived.Test.YtaelhkkjgfobhaaGreatKE
set_option linter.unusedSectionVars false
set_option linter.unusedVariables false
set_option linter.unusedSimpArgs false
namespace Go.Proofs.YtaelhkkjgfobhaaGreat
open Go.Sl Go.Proofs
section
section
attribute [local irreducible] SW RW aM SC ak au
variable (l:List ag) (hl:l.length<1000000000) (hr:∀ x,x∈l→x.bp<256)
include hl hr
end
end
section
theorem j8 {l:List Cm}{i:Nat}{x:Cm}(h:l[i]? =some x):List.take 2 (List.drop (i*4) (List.map SV.d (l.flatMap Cm.ds)))=x.line.cells:=by
 have:=sn h
 rw [← x.s0,← this,List.take_take]
 rfl
theorem yT {l:List Cm}{i:Nat}{x:Cm}(h:l[i]? =some x):List.take 2 (List.drop (i*4+2) (List.map SV.d (l.flatMap Cm.ds)))=x.iK.cells:=by
 have:=sn h
 rw [← x.s2,← this,List.drop_take,List.take_take,List.drop_drop]
 rfl
section
attribute [local irreducible] SW RW aM SC ak au
variable (l:List ag) (hl:l.length<1000000000) (hr:∀ x,x∈l→x.bp<256)
include hl hr
end
end
section
section
attribute [local irreducible] SW RW aM SC ak au
variable (l:List ag) (hl:l.length≤80) (hd:∀ x,x∈l→x.bp<256∧x.ow∧x.dot.wf)
include hl hd
end
end
end Go.Proofs.YtaelhkkjgfobhaaGreat
