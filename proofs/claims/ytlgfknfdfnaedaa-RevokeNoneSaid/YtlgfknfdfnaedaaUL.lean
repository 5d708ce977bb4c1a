/-
  Shapes: what is well-formed names what it needs (plain).
-/
import Derived.Test.YtlgfknfdfnaedaaUJ
import Derived.Test.YtlgfknfdfnaedaaUE
import Derived.Test.YtlgfknfdfnaedaaU6
import Derived.Test.YtlgfknfdfnaedaaUK
import Derived.Test.YtlgfknfdfnaedaaU5
set_option linter.unusedSectionVars false
set_option linter.unusedVariables false
set_option linter.unusedSimpArgs false
namespace Go.Proofs.Ytlgfknfdfnaedaa
open Go.Sl Go.Proofs
section
variable {l : List OpD} {o : OpD} (hw : whyL l o = 0)
include hw
end
end Go.Proofs.Ytlgfknfdfnaedaa
namespace Go.Proofs.Ytlgfknfdfnaedaa
open Go.Sl Go.Proofs
end Go.Proofs.Ytlgfknfdfnaedaa
namespace Go.Proofs.Ytlgfknfdfnaedaa
open Go.Sl Go.Proofs
section
attribute [local irreducible] SW RW SCd SC CallP Pruned
theorem stree_sb (S : Sh) : SB Try.prog shape_Shape_Tree.f [.ptr 0 0] S.h0 7 0 fun r F => r = .ptr 4 0 ∧ F = S.h0 := by
  refine shape_Shape_Tree.enter (by simp [SV.oks, SV.ok]) (S.ok (Nat.le_refl 7)) (by simp) ?_
  dsimp only [shape_Shape_Tree.s, Co.M, Co.G, Co.J, Co.H, Co.N, Co.F, Co.C, Co.Z, Co.B, Co.b8, Co.b32, Co.b64, Co.i6, Co.z8, Co.z29]
  (repeat (first | refine SW.seq ?_ | refine SW.block ?_ | refine SW.g1 [0, 2, 4] mixed bq_tt (snone_0 S) ?_ | refine SW.skip ?_ | refine SW.exit ?_ | refine SW.ret ?_ | refine SW.condT rfl ?_ | refine SW.condF rfl ?_))
  exact End.mk S.h0 (h4 := ⟨rfl, rfl⟩) (h6 := S.ok (Nat.le_refl 7))
theorem ShOk.stree10 (S : Sh) (k : Nat) : SCd Try.prog shape_Shape_Tree.f [.ptr 10 0] S.h10 k 0 (.ptr 2 0) S.h10 := by
  have := SB.atL n10.nl (stree_sb S) (by decide) (fun i hi => S.h0_ne i hi) k
  rw [S.hp_ren n10 k] at this
  exact this
end
end Go.Proofs.Ytlgfknfdfnaedaa
