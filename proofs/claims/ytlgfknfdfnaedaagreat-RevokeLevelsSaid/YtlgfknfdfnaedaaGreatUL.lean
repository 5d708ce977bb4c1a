/-
  Shapes: what is well-formed names what it needs (plain).
-/
import Derived.Test.YtlgfknfdfnaedaaGreatUJ
import Derived.Test.YtlgfknfdfnaedaaGreatUE
import Derived.Test.YtlgfknfdfnaedaaGreatU6
import Derived.Test.YtlgfknfdfnaedaaGreatUK
import Derived.Test.YtlgfknfdfnaedaaGreatU5
import Derived.Test.YtlgfknfdfnaedaaGreatUB
import Derived.Test.YtlgfknfdfnaedaaGreatUG
set_option linter.unusedSectionVars false
set_option linter.unusedVariables false
set_option linter.unusedSimpArgs false
namespace Go.Proofs.YtlgfknfdfnaedaaGreat
open Go.Sl Go.Proofs
section
variable {l : List OpD} {o : OpD} (hw : whyL l o = 0)
include hw
theorem names_cred (hk : o.kind ≠ 0) : ∃ c, MM.get (newTr l).at_ o.cred = some c ∧ c.cart = o.cart ∧ c.hold = o.who ∧ roleB c o.kind = false := by
  unfold whyL whyP at hw
  obtain ⟨_, _, h3, _, _⟩ := why0_iff.1 hw
  obtain ⟨e1, e2, e3⟩ := h3 hk
  obtain ⟨c, a, h1, _, _, _, h5⟩ := crdP_iff.1 e1
  rw [h1] at e2 e3
  exact ⟨c, h1, h5, Int.ofNat_inj.1 e2, e3⟩
theorem names_tgt : tgtP l (newTr l).at_ (newTr l).made o (aboveR (newTr l).at_ o.cred o.at_ (upsL (newTr l).at_ o.at_)) = true := by
  unfold whyL whyP at hw
  exact (why0_iff.1 hw).2.2.2.2
theorem names_above (hk : o.kind = 2) : aboveR (newTr l).at_ o.cred o.at_ (upsL (newTr l).at_ o.at_) = true := by
  have := names_tgt hw
  unfold tgtP at this
  rw [if_pos hk, Bool.and_eq_true] at this
  exact this.2
end
end Go.Proofs.YtlgfknfdfnaedaaGreat
namespace Go.Proofs.YtlgfknfdfnaedaaGreat
open Go.Sl Go.Proofs
end Go.Proofs.YtlgfknfdfnaedaaGreat
namespace Go.Proofs.YtlgfknfdfnaedaaGreat
open Go.Sl Go.Proofs
section
attribute [local irreducible] SW RW SCd SC CallP Pruned
theorem stree_sb (S : Sh) : SB Tryz.prog shape_Shape_Tree.f [.ptr 0 0] S.h0 7 0 fun r F => r = .ptr 4 0 ∧ F = S.h0 := by
  refine shape_Shape_Tree.enter (by simp [SV.oks, SV.ok]) (S.ok (Nat.le_refl 7)) (by simp) ?_
  dsimp only [shape_Shape_Tree.s, Co.M, Co.G, Co.J, Co.H, Co.N, Co.F, Co.C, Co.Z, Co.B, Co.b8, Co.b32, Co.b64, Co.i6, Co.z8, Co.z29]
  (repeat (first | refine SW.seq ?_ | refine SW.block ?_ | refine SW.g1 [0, 2, 4] mixed bq_tt (snone_0 S) ?_ | refine SW.skip ?_ | refine SW.exit ?_ | refine SW.ret ?_ | refine SW.condT rfl ?_ | refine SW.condF rfl ?_))
  exact End.mk S.h0 (h4 := ⟨rfl, rfl⟩) (h6 := S.ok (Nat.le_refl 7))
theorem ShOk.stree10 (S : Sh) (k : Nat) : SCd Tryz.prog shape_Shape_Tree.f [.ptr 10 0] S.h10 k 0 (.ptr 2 0) S.h10 := by
  have := SB.atL n10.nl (stree_sb S) (by decide) (fun i hi => S.h0_ne i hi) k
  rw [S.hp_ren n10 k] at this
  exact this
end
end Go.Proofs.YtlgfknfdfnaedaaGreat
namespace Go.Proofs.YtlgfknfdfnaedaaGreat
open Go.Sl Go.Proofs
end Go.Proofs.YtlgfknfdfnaedaaGreat
namespace Go.Proofs.YtlgfknfdfnaedaaGreat
open Go.Sl Go.Proofs
section
attribute [local irreducible] SW RW SCd SC CallP Pruned needsV
variable (l : List OpD) (hl : l.length < 1000000000)
include hl
variable (hr : ∀ x, x ∈ l → x.roles < 256)
include hr
end
section
attribute [local irreducible] SW RW SCd SC CallP Pruned
end
section
attribute [local irreducible] SW RW SCd SC CallP Pruned needsV
variable (l : List OpD) (hl : l.length < 1000000000) (hr : ∀ x, x ∈ l → x.roles < 256)
include hl hr
end
end Go.Proofs.YtlgfknfdfnaedaaGreat
