/-
 Shapes: the head's operations and its row.
-/
import Derived.Test.YtaelhkkjgfobhaaGreatUJ
import Derived.Test.YtaelhkkjgfobhaaGreatU5
set_option linter.unusedSectionVars false
set_option linter.unusedVariables false
set_option linter.unusedSimpArgs false
namespace Go.Proofs.YtaelhkkjgfobhaaGreat
open Go.Sl Go.Proofs
section
attribute [local irreducible] SW RW aG SC aj an
def L1 (n kind who aV:Nat):ag:=⟨⟨0,n⟩,zu (n - 1),n,who,⟨0,1⟩,kind,⟨0,aV⟩,0,0,0,0,⟨0,0⟩,⟨0,0⟩,0,0,0,.aD⟩
def ya (n kind who aV:Nat):ag:=(L1 n kind who aV).nz
theorem SC.KO {P:Program}{f:FuncId}{args:List SV}{F F':Hp}{k nk:Nat}{r r':SV}(h:aG P f args F k nk r F')(hr:∀ (p:Nat→Prop) μ M u,Rp p μ M r u→Rp p μ M r' u):aG P f args F k nk r' F':=by
 unfold aG SC at h ⊢
 refine ⟨h.1,fun p μ M w vals h1 h2 h3=>(h.2 p μ M w vals h1 h2 h3).mono ?_⟩
 rintro e w' ⟨r0,F0,bh,M',u,a,⟨rfl,rfl⟩,b,c⟩
 exact ⟨r',F0,bh,M',u,a,⟨rfl,rfl⟩,hr _ _ _ _ b,c⟩
end
section
abbrev nK (k:Nat):Sn:=⟨10+k,7+k,8+k,9+k,2+k,0+k,1+k⟩
theorem Sh.Ay (S:Sh)(k:Nat):Hp.aB (· +k) S.jo=S.hp (nK k):=by
 simp only [Hp.aB,List.map_cons,List.map_nil,Ob.aB,SV.aX,SV.aB,iB,cF,oB,eL,Sh.hp]
theorem Az (l:List ag)(hl:l.length<1000000000)(hd:∀ o,o∈l→o.kind<256∧o.nw)(k:Nat):SC Tryz.prog shape_New.f [ops l] [] k 11 fun r F=>∃ S,cq l S∧r= .ptr (10+k) 0∧F=S.hp (nK k):=by
 have:=SB.at (Gt l hl hd) (· +k) k (fun n m h=>absurd h (Nat.not_lt_zero n)) (fun n h=>absurd h (Nat.not_lt_zero n)) (fun i _=>by show 0+i+k=k+i;omega)
 refine SC.mono (show SC Tryz.prog shape_New.f [ops l] [] k 11 _ from this) ?_
 rintro r F ⟨r0,F0,⟨S,hS,rfl,rfl⟩,rfl,rfl⟩
 exact ⟨S,hS,rfl,S.Ay k⟩
theorem Ja (l:List ag)(hl:l.length<1000000000)(hd:∀ o,o∈l→o.kind<256∧o.nw):SC Tryz.prog shape_New.f [ops l] [] 0 11 fun r F=>∃ S,cq l S∧r= .ptr 10 0∧F=S.jo:=Az l hl hd 0
section
variable {l:List ag} {S:Sh} (h:cq l S)
include h
theorem cq.short (hd:∀ o,o∈l→o.kind<256∧o.nw∧o.cl.length≤1048576):m_ S:=fun d o ho=>by
 rw [h.base.ops.get] at ho
 exact hd o (kr ho).1
end
def o1:ag:=ya 1 0 1 0
def o2:ag:={ ya 2 1 1 1 with to:=2,aN:=2,cap:=9}
def o3:ag:={ ya 3 3 2 2 with II:=1}
def o4:ag:={ ya 4 4 2 2 with at_:=⟨0,3⟩,II:=2}
def hrow:List ag:=[o1,o2,o3,o4]
theorem HW:cR (ya 4 4 2 2).cells 21 (Dt.mk 0 3).cells=({ ya 4 4 2 2 with at_:=⟨0,3⟩}:ag).cells:=rfl
theorem d3:cR (Dt.mk 0 0).cells 1 [.d (.int .u32 3)]=(Dt.mk 0 3).cells:=rfl
theorem d4:cR (Dt.mk 0 0).cells 1 [.d (.int .u32 4)]=(Dt.mk 0 4).cells:=rfl
attribute [local irreducible] SW RW aG SC aj an
end
section
def hc1:Cr:=⟨⟨0,1⟩,⟨0,1⟩,⟨0,0⟩,1,7,8,1099511627776,0⟩
def Fi:Cr:=⟨⟨0,2⟩,⟨0,1⟩,⟨0,1⟩,2,2,0,9,1⟩
theorem Gx {l:List ag}{o:ag}{L:List Cr}{n:Nat}(hL:mZ (aA l).at_ (MM.get (aA l).at_ o.at_) L)(h:sA l (aA l).at_ (aA l).made o (fU (aA l).at_ o.aV o.at_ L)=n):g_ l o=n:=by
 unfold g_
 rw [iD hL];exact h
def xb:List Cm:=[⟨⟨0,3⟩,⟨0,4⟩⟩]
def L2:ag:={ ya 5 8 2 2 with lines:= .sl 1 (xb.flatMap Cm.ds)}
theorem L3 {o:ag}(h:o.lines= .sl 0 []):o.nw:=(ag.nw.of (l:=[]) h (by simp)).1
section
variable {S:Sh} (h:cq hrow S)
include h
end
theorem Mp:cR (ya 5 8 2 2).cells 28 [.d (.sl 1 (xb.flatMap Cm.ds))]=L2.cells:=rfl
attribute [local irreducible] SW RW aG SC aj an
end
end Go.Proofs.YtaelhkkjgfobhaaGreat
