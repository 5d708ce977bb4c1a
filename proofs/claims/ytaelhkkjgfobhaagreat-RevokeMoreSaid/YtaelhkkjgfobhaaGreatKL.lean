/-
 Shapes: what is well-formed names what it needs (plain).
-/
import Derived.Test.YtaelhkkjgfobhaaGreatKJ
import Derived.Test.YtaelhkkjgfobhaaGreatKE
import Derived.Test.YtaelhkkjgfobhaaGreatK6
import Derived.Test.YtaelhkkjgfobhaaGreatKK
import Derived.Test.YtaelhkkjgfobhaaGreatK5
import Derived.Test.YtaelhkkjgfobhaaGreatKB
import Derived.Test.YtaelhkkjgfobhaaGreatKG
set_option linter.unusedSectionVars false
set_option linter.unusedVariables false
set_option linter.unusedSimpArgs false
namespace Go.Proofs.YtaelhkkjgfobhaaGreat
open Go.Sl Go.Proofs
section
section
variable {l:List ag} {o:ag} (hw:mG l o=0)
include hw
end
end
section
end
section
section
attribute [local irreducible] SW RW aM SC ak au
theorem DK (S:Sh):SB Tryz.prog shape_Shape_Tree.f [.ptr 0 0] S.h0 7 0 fun r F=>r= .ptr 4 0∧F=S.h0:=by
 refine shape_Shape_Tree.enter (by simp [SV.ay,SV.ok]) (S.ok (Nat.le_refl 7)) (by simp) ?_
 dsimp only [shape_Shape_Tree.s,Co.M,Co.G,Co.J,Co.H,Co.N,Co.F,Co.C,Co.Z,Co.B,Co.b8,Co.aB,Co.bL,Co.i6,Co.z8,Co.bU]
 (repeat (first | refine SW.seq ?_ | refine SW.block ?_ | refine SW.g1 [0,2,4] mixed af (sq S) ?_ | refine SW.skip ?_ | refine SW.exit ?_ | refine SW.ret ?_ | refine SW.ah rfl ?_ | refine SW.aj rfl ?_))
 exact End.mk S.h0 (h4:=⟨rfl,rfl⟩) (h6:=S.ok (Nat.le_refl 7))
theorem cN.FW (S:Sh)(k:Nat):aM Tryz.prog shape_Shape_Tree.f [.ptr 10 0] S.jk k 0 (.ptr 2 0) S.jk:=by
 have:=SB.qA n10.nl (DK S) (by decide) (fun i hi=>S.GM i hi) k
 rw [S.CQ n10 k] at this
 exact this
end
end
section
end
section
section
attribute [local irreducible] SW RW aM SC ak au jr
variable (l:List ag) (hl:l.length<1000000000)
include hl
variable (hr:∀ x,x∈l→x.bp<256)
include hr
end
section
attribute [local irreducible] SW RW aM SC ak au
end
section
attribute [local irreducible] SW RW aM SC ak au jr
variable (l:List ag) (hl:l.length<1000000000) (hr:∀ x,x∈l→x.bp<256)
include hl hr
end
end
end Go.Proofs.YtaelhkkjgfobhaaGreat
