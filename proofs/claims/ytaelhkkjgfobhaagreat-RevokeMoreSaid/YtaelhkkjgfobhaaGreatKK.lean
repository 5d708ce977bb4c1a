/-
 Shapes: the head's operations and its row.
-/
import Derived.Test.YtaelhkkjgfobhaaGreatKJ
import Derived.Test.YtaelhkkjgfobhaaGreatK5
set_option linter.unusedSectionVars false
set_option linter.unusedVariables false
set_option linter.unusedSimpArgs false
namespace Go.Proofs.YtaelhkkjgfobhaaGreat
open Go.Sl Go.Proofs
section
attribute [local irreducible] SW RW aM SC ak au
def KW (n kind who aK:Nat):ag:=⟨⟨0,n⟩,yH (n - 1),n,who,⟨0,1⟩,kind,⟨0,aK⟩,0,0,0,0,⟨0,0⟩,⟨0,0⟩,0,0,0,.aU⟩
def A7 (n kind who aK:Nat):ag:=(KW n kind who aK).nz
theorem SC.JP {P:Program}{f:FuncId}{args:List SV}{F F':Hp}{k nk:Nat}{r r':SV}(h:aM P f args F k nk r F')(hr:∀ (p:Nat→Prop) μ M u,Rp p μ M r u→Rp p μ M r' u):aM P f args F k nk r' F':=by
 unfold aM SC at h ⊢
 refine ⟨h.1,fun p μ M w vals h1 h2 h3=>(h.2 p μ M w vals h1 h2 h3).mono ?_⟩
 rintro e w' ⟨r0,F0,aZ,M',u,a,⟨rfl,rfl⟩,b,c⟩
 exact ⟨r',F0,aZ,M',u,a,⟨rfl,rfl⟩,hr _ _ _ _ b,c⟩
end
section
abbrev nK (k:Nat):Sn:=⟨10+k,7+k,8+k,9+k,2+k,0+k,1+k⟩
theorem Sh.zZ (S:Sh)(k:Nat):Hp.aC (· +k) S.jk=S.hp (nK k):=by
 simp only [Hp.aC,List.map_cons,List.map_nil,Ob.aC,SV.aW,SV.aC,ic,cF,nY,eC,Sh.hp]
theorem z_ (l:List ag)(hl:l.length<1000000000)(hd:∀ o,o∈l→o.kind<256∧o.ow)(k:Nat):SC Tryz.prog shape_New.f [ops l] [] k 11 fun r F=>∃ S,cN l S∧r= .ptr (10+k) 0∧F=S.hp (nK k):=by
 have:=SB.at (FI l hl hd) (· +k) k (fun n m h=>absurd h (Nat.not_lt_zero n)) (fun n h=>absurd h (Nat.not_lt_zero n)) (fun i _=>by show 0+i+k=k+i;omega)
 refine SC.mono (show SC Tryz.prog shape_New.f [ops l] [] k 11 _ from this) ?_
 rintro r F ⟨r0,F0,⟨S,hS,rfl,rfl⟩,rfl,rfl⟩
 exact ⟨S,hS,rfl,S.zZ k⟩
theorem Dy (l:List ag)(hl:l.length<1000000000)(hd:∀ o,o∈l→o.kind<256∧o.ow):SC Tryz.prog shape_New.f [ops l] [] 0 11 fun r F=>∃ S,cN l S∧r= .ptr 10 0∧F=S.jk:=z_ l hl hd 0
section
variable {l:List ag} {S:Sh} (h:cN l S)
include h
theorem cN.short (hd:∀ o,o∈l→o.kind<256∧o.ow∧o.cl.length≤1048576):mB S:=fun d o ho=>by
 rw [h.base.ops.get] at ho
 exact hd o (cT ho).1
end
def o1:ag:=A7 1 0 1 0
def o2:ag:={ A7 2 1 1 1 with to:=2,bp:=2,cap:=9}
def o3:ag:={ A7 3 3 2 2 with r7:=1}
def o4:ag:={ A7 4 4 2 2 with at_:=⟨0,3⟩,r7:=2}
def hrow:List ag:=[o1,o2,o3,o4]
theorem d3:cU (Dt.mk 0 0).cells 1 [.d (.int .u32 3)]=(Dt.mk 0 3).cells:=rfl
theorem d4:cU (Dt.mk 0 0).cells 1 [.d (.int .u32 4)]=(Dt.mk 0 4).cells:=rfl
attribute [local irreducible] SW RW aM SC ak au
end
section
def hc1:Cr:=⟨⟨0,1⟩,⟨0,1⟩,⟨0,0⟩,1,7,8,1099511627776,0⟩
def EG:Cr:=⟨⟨0,2⟩,⟨0,1⟩,⟨0,1⟩,2,2,0,9,1⟩
theorem FK {l:List ag}{o:ag}{L:List Cr}{n:Nat}(hL:rS (a_ l).at_ (MM.get (a_ l).at_ o.at_) L)(h:yK l (a_ l).at_ (a_ l).made o (mT (a_ l).at_ o.aK o.at_ L)=n):mG l o=n:=by
 unfold mG
 rw [i_ hL];exact h
def Kn:List Cm:=[⟨⟨0,3⟩,⟨0,4⟩⟩]
def KX:ag:={ A7 5 8 2 2 with lines:= .sl 1 (Kn.flatMap Cm.ds)}
theorem KY {o:ag}(h:o.lines= .sl 0 []):o.ow:=(ag.ow.of (l:=[]) h (by simp)).1
section
variable {S:Sh} (h:cN hrow S)
include h
end
theorem Lg:cU (A7 5 8 2 2).cells 28 [.d (.sl 1 (Kn.flatMap Cm.ds))]=KX.cells:=rfl
attribute [local irreducible] SW RW aM SC ak au
end
end Go.Proofs.YtaelhkkjgfobhaaGreat
