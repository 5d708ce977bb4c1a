/-
 Shapes: what is well-formed names what it needs (plain).
-/
import Derived.Test.YtaelhkkjgfobhaaGreatPJ
import Derived.Test.YtaelhkkjgfobhaaGreatPE
import Derived.Test.YtaelhkkjgfobhaaGreatP6
import Derived.Test.YtaelhkkjgfobhaaGreatPK
import Derived.Test.YtaelhkkjgfobhaaGreatP5
import Derived.Test.YtaelhkkjgfobhaaGreatPB
import Derived.Test.YtaelhkkjgfobhaaGreatPG
set_option linter.unusedSectionVars false
set_option linter.unusedVariables false
set_option linter.unusedSimpArgs false
namespace Go.Proofs.YtaelhkkjgfobhaaGreat
open Go.Sl Go.Proofs
section
section
variable {l:List ag} {o:ag} (hw:oF l o=0)
include hw
theorem tj (hk:o.kind≠0):∃ c,MM.get (cU l).at_ o.br=some c∧c.aR=o.aR∧c.hold=o.who∧mI c o.kind=false:=by
 unfold oF zf at hw;obtain ⟨_,_,h3,_,_⟩:=xZ.1 hw;obtain ⟨e1,e2,e3⟩:=h3 hk;obtain ⟨c,a,h1,_,_,_,h5⟩:=Ee.1 e1;rw [h1] at e2 e3;exact ⟨c,h1,h5,Int.ofNat_inj.1 e2,e3⟩
theorem BE:Ed l (cU l).at_ (cU l).made o (kM (cU l).at_ o.br o.at_ (oE (cU l).at_ o.at_))=true:=by
 unfold oF zf at hw;exact (xZ.1 hw).2.2.2.2
theorem yd (hk:o.kind=2):kM (cU l).at_ o.br o.at_ (oE (cU l).at_ o.at_)=true:=by
 have:=BE hw;unfold Ed at this;rw [if_pos hk,Bool.and_eq_true] at this;exact this.2
end
end
section
end
section
section
attribute [local irreducible] SW RW aF SC aj ak
theorem Ep (S:Sh):SB Tryz.prog shape_Shape_Tree.f [.ptr 0 0] S.h0 7 0 fun r F=>r= .ptr 4 0∧F=S.h0:=by
 refine shape_Shape_Tree.enter (by simp [SV.aA,SV.ok]) (S.ok (Nat.le_refl 7)) (by simp) ?_
 dsimp only [shape_Shape_Tree.s,Co.M,Co.G,Co.J,Co.H,Co.N,Co.F,Co.C,Co.Z,Co.B,Co.b8,Co.ay,Co.bU,Co.i6,Co.z8,Co.cq]
 (repeat (first | refine SW.seq ?_ | refine SW.block ?_ | refine SW.g1 [0,2,4] mixed af (qg S) ?_ | refine SW.skip ?_ | refine SW.exit ?_ | refine SW.ret ?_ | refine SW.au rfl ?_ | refine SW.aq rfl ?_))
 exact End.mk S.h0 (h4:=⟨rfl,rfl⟩) (h6:=S.ok (Nat.le_refl 7))
theorem bI.GO (S:Sh)(k:Nat):aF Tryz.prog shape_Shape_Tree.f [.ptr 10 0] S.j7 k 0 (.ptr 2 0) S.j7:=by
 have:=SB.nI n10.nl (Ep S) (by decide) (fun i hi=>S.Ap i hi) k
 rw [S.DE n10 k] at this;exact this
end
end
section
end
section
section
attribute [local irreducible] SW RW aF SC aj ak jt
variable (l:List ag) (hl:l.length<1000000000)
include hl
variable (hr:∀ x,x∈l→x.bn<256)
include hr
end
section
attribute [local irreducible] SW RW aF SC aj ak
end
section
attribute [local irreducible] SW RW aF SC aj ak jt
variable (l:List ag) (hl:l.length<1000000000) (hr:∀ x,x∈l→x.bn<256)
include hl hr
end
end
end Go.Proofs.YtaelhkkjgfobhaaGreat
