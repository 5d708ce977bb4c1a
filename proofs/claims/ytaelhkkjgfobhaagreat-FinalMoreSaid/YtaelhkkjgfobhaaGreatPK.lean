/-
 Shapes: the head's operations and its row.
-/
import Derived.Test.YtaelhkkjgfobhaaGreatPJ
import Derived.Test.YtaelhkkjgfobhaaGreatP5
set_option linter.unusedSectionVars false
set_option linter.unusedVariables false
set_option linter.unusedSimpArgs false
namespace Go.Proofs.YtaelhkkjgfobhaaGreat
open Go.Sl Go.Proofs
section
attribute [local irreducible] SW RW aF SC aj ak
def L6 (n kind who br:Nat):ag:=⟨⟨0,n⟩,gB (n - 1),n,who,⟨0,1⟩,kind,⟨0,br⟩,0,0,0,0,⟨0,0⟩,⟨0,0⟩,0,0,0,.aP⟩
def BA (n kind who br:Nat):ag:=(L6 n kind who br).nz
theorem SC.KX {P:Program}{f:FuncId}{args:List SV}{F F':Hp}{k nk:Nat}{r r':SV}(h:aF P f args F k nk r F')(hr:∀ (p:Nat→Prop) μ M u,Rp p μ M r u→Rp p μ M r' u):aF P f args F k nk r' F':=by
 unfold aF SC at h ⊢;refine ⟨h.1,fun p μ M w vals h1 h2 h3=>(h.2 p μ M w vals h1 h2 h3).mono ?_⟩
 rintro e w' ⟨r0,F0,aV,M',u,a,⟨rfl,rfl⟩,b,c⟩;exact ⟨r',F0,aV,M',u,a,⟨rfl,rfl⟩,hr _ _ _ _ b,c⟩
end
section
abbrev nK (k:Nat):Sn:=⟨10+k,7+k,8+k,9+k,2+k,0+k,1+k⟩
theorem Sh.Aw (S:Sh)(k:Nat):Hp.aB (· +k) S.j7=S.hp (nK k):=by
 simp only [Hp.aB,List.map_cons,List.map_nil,Ob.aB,SV.aK,SV.aB,dg,bz,dI,bV,Sh.hp]
theorem GC (l:List ag)(hl:l.length<1000000000)(hd:∀ o,o∈l→o.kind<256∧o.mS)(k:Nat):SC Tryz.prog shape_New.f [ops l] [] k 11 fun r F=>∃ S,bI l S∧r= .ptr (10+k) 0∧F=S.hp (nK k):=by
 have:=SB.at (Gy l hl hd) (· +k) k (fun n m h=>absurd h (Nat.not_lt_zero n)) (fun n h=>absurd h (Nat.not_lt_zero n)) (fun i _=>by show 0+i+k=k+i;omega)
 refine SC.mono (show SC Tryz.prog shape_New.f [ops l] [] k 11 _ from this) ?_;rintro r F ⟨r0,F0,⟨S,hS,rfl,rfl⟩,rfl,rfl⟩;exact ⟨S,hS,rfl,S.Aw k⟩
section
variable {l:List ag} {S:Sh} (h:bI l S)
include h
theorem bI.short (hd:∀ o,o∈l→o.kind<256∧o.mS∧o.cl.length≤1048576):iD S:=fun d o ho=>by
 rw [h.base.ops.get] at ho;exact hd o (s4 ho).1
end
def o1:ag:=BA 1 0 1 0
def o2:ag:={ BA 2 1 1 1 with to:=2,bn:=2,cap:=9}
def o3:ag:={ BA 3 3 2 2 with IK:=1}
def o4:ag:={ BA 4 4 2 2 with at_:=⟨0,3⟩,IK:=2}
def hrow:List ag:=[o1,o2,o3,o4]
theorem d3:bW (Dt.mk 0 0).cells 1 [.d (.int .u32 3)]=(Dt.mk 0 3).cells:=rfl
theorem d4:bW (Dt.mk 0 0).cells 1 [.d (.int .u32 4)]=(Dt.mk 0 4).cells:=rfl
attribute [local irreducible] SW RW aF SC aj ak
end
section
def hc1:Cr:=⟨⟨0,1⟩,⟨0,1⟩,⟨0,0⟩,1,7,8,1099511627776,0⟩
def Fv:Cr:=⟨⟨0,2⟩,⟨0,1⟩,⟨0,1⟩,2,2,0,9,1⟩
theorem GD {l:List ag}{o:ag}{L:List Cr}{n:Nat}(hL:oD (cU l).at_ (MM.get (cU l).at_ o.at_) L)(h:zf l (cU l).at_ (cU l).made o (kM (cU l).at_ o.br o.at_ L)=n):oF l o=n:=by
 unfold oF;rw [ia hL];exact h
def Ly:List Cm:=[⟨⟨0,3⟩,⟨0,4⟩⟩]
def L7:ag:={ BA 5 8 2 2 with lines:= .sl 1 (Ly.flatMap Cm.ds)}
theorem L8 {o:ag}(h:o.lines= .sl 0 []):o.mS:=(ag.mS.of (l:=[]) h (by simp)).1
section
variable {S:Sh} (h:bI hrow S)
include h
end
theorem MD:bW (BA 5 8 2 2).cells 28 [.d (.sl 1 (Ly.flatMap Cm.ds))]=L7.cells:=rfl
attribute [local irreducible] SW RW aF SC aj ak
end
end Go.Proofs.YtaelhkkjgfobhaaGreat
