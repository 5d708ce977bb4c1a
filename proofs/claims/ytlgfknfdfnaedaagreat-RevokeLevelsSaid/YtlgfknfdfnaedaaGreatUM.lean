/-
  Shapes: the document's lines, versions, targets; why.
-/
import Derived.Test.YtlgfknfdfnaedaaGreatU6
import Derived.Test.YtlgfknfdfnaedaaGreatUL
import Derived.Test.YtlgfknfdfnaedaaGreatUE
set_option linter.unusedSectionVars false
set_option linter.unusedVariables false
set_option linter.unusedSimpArgs false
namespace Go.Proofs.YtlgfknfdfnaedaaGreat
open Go.Sl Go.Proofs
section
attribute [local irreducible] SW RW SCd SC CallP Pruned
variable (l : List OpD) (hl : l.length < 1000000000) (hr : ∀ x, x ∈ l → x.roles < 256)
include hl hr
end
end Go.Proofs.YtlgfknfdfnaedaaGreat
namespace Go.Proofs.YtlgfknfdfnaedaaGreat
open Go.Sl Go.Proofs
section
attribute [local irreducible] SW RW SCd SC CallP Pruned
variable (l : List OpD) (hl : l.length < 1000000000) (hr : ∀ x, x ∈ l → x.roles < 256)
include hl hr
end
end Go.Proofs.YtlgfknfdfnaedaaGreat
namespace Go.Proofs.YtlgfknfdfnaedaaGreat
open Go.Sl Go.Proofs
section
attribute [local irreducible] SW RW SCd SC CallP Pruned
variable (l : List OpD) (hl : l.length ≤ 80) (hd : ∀ x, x ∈ l → x.roles < 256 ∧ x.lin ∧ x.dot.wf)
include hl hd
end
end Go.Proofs.YtlgfknfdfnaedaaGreat
