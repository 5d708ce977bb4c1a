/-
  Order: what two vectors keep of a row.
-/
import Derived.Test.YtemghnbbmahaaaaDoorUK
import Derived.Test.YtemghnbbmahaaaaDoorUF
set_option linter.unusedSectionVars false
set_option linter.unusedVariables false
set_option linter.unusedSimpArgs false
namespace Go.Proofs.YtemghnbbmahaaaaDoor
open Go.Sl Go.Proofs
attribute [local irreducible] SW RW SCd SC CallP Pruned
theorem op_load {l : List OpD} {i : Nat} {x : OpD} (h : l[i]? = some x) : List.take 2 (List.drop (i * 29) (List.map SV.d (l.flatMap OpD.ds))) = x.dot.cells := by
  have h1 : List.take 2 (List.take 29 (List.drop (i * 29) (List.map SV.d (l.flatMap OpD.ds)))) = x.dot.cells := by rw [op_at h]; rfl
  rw [← h1, List.take_take]; rfl
theorem op_roomd {l : List OpD} {i : Nat} {x : OpD} (h : l[i]? = some x) : (i * 29 + 2 ≤ (List.map SV.d (l.flatMap OpD.ds)).length) = True := eq_true (by
  have := of_eq_true (op_room0 h); omega)
end Go.Proofs.YtemghnbbmahaaaaDoor
