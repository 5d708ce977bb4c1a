/-
  Trees of credentials: the document's chains, those above, all of a cart.
-/
import Derived.Test.YtlgfknfdfnaedaaGreatU6
import Derived.Test.YtlgfknfdfnaedaaGreatUJ
import Derived.Test.YtlgfknfdfnaedaaGreatUB
import Derived.Test.YtlgfknfdfnaedaaGreatUE
import Derived.Test.YtlgfknfdfnaedaaGreatU5
set_option linter.unusedSectionVars false
set_option linter.unusedVariables false
set_option linter.unusedSimpArgs false
namespace Go.Proofs.YtlgfknfdfnaedaaGreat
open Go.Sl Go.Proofs
attribute [local irreducible] SW RW SCd SC CallP Pruned
section
variable {l : List OpD} (hlen : l.length < 4611686018427387904) (hl : ∀ x, x ∈ l → x.roles < 256) {T : Tr} (h : TOk l T)
include hlen hl h
end
end Go.Proofs.YtlgfknfdfnaedaaGreat
