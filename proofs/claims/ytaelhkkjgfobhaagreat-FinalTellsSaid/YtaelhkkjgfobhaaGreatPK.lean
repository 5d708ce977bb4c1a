/-
 Shapes: the head's operations and its row.
-/
import Derived.Test.YtaelhkkjgfobhaaGreatPJ
import Derived.Test.YtaelhkkjgfobhaaGreatP5
set_option linter.unusedSectionVars false
set_option linter.unusedVariables false
set_option linter.unusedSimpArgs false
namespace Go.Proofs.YtaelhkkjgfobhaaGreat
open Go.Sl Go.Proofs
section
attribute [local irreducible] SW RW aF SC ai aq
def N0 (n kind who aN:Nat):ag:=⟨⟨0,n⟩,iu (n - 1),n,who,⟨0,1⟩,kind,⟨0,aN⟩,0,0,0,0,⟨0,0⟩,⟨0,0⟩,0,0,0,.aJ⟩
def zh (n kind who aN:Nat):ag:=(N0 n kind who aN).nz
theorem SC.MQ {P:Program}{f:FuncId}{args:List SV}{F F':Hp}{k nk:Nat}{r r':SV}(h:aF P f args F k nk r F')(hr:∀ (p:Nat→Prop) μ M u,Rp p μ M r u→Rp p μ M r' u):aF P f args F k nk r' F':=by
 unfold aF SC at h ⊢;refine ⟨h.1,fun p μ M w vals h1 h2 h3=>(h.2 p μ M w vals h1 h2 h3).mono ?_⟩;rintro e w' ⟨r0,F0,a_,M',u,a,⟨rfl,rfl⟩,b,c⟩;exact ⟨r',F0,a_,M',u,a,⟨rfl,rfl⟩,hr _ _ _ _ b,c⟩
end
section
abbrev nK (k:Nat):Sn:=⟨10+k,7+k,8+k,9+k,2+k,0+k,1+k⟩
theorem Sh.BO (S:Sh)(k:Nat):Hp.aC (· +k) S.lD=S.hp (nK k):=by
 simp only [Hp.aC,List.map_cons,List.map_nil,Ob.aC,SV.aT,SV.aC,dG,bK,dZ,cH,Sh.hp]
theorem Iq (l:List ag)(hl:l.length<1000000000)(hd:∀ o,o∈l→o.kind<256∧o.mN)(k:Nat):SC Tryz.prog shape_New.f [ops l] [] k 11 fun r F=>∃ S,bR l S∧r= .ptr (10+k) 0∧F=S.hp (nK k):=by
 have:=SB.at (Il l hl hd) (· +k) k (fun n m h=>absurd h (Nat.not_lt_zero n)) (fun n h=>absurd h (Nat.not_lt_zero n)) (fun i _=>by show 0+i+k=k+i;omega);refine SC.mono (show SC Tryz.prog shape_New.f [ops l] [] k 11 _ from this) ?_;rintro r F ⟨r0,F0,⟨S,hS,rfl,rfl⟩,rfl,rfl⟩;exact ⟨S,hS,rfl,S.BO k⟩
section
variable {l:List ag} {S:Sh} (h:bR l S)
include h
theorem bR.short (hd:∀ o,o∈l→o.kind<256∧o.mN∧o.cl.length≤1048576):jv S:=fun d o ho=>by
 rw [h.base.ops.get] at ho;exact hd o (kZ ho).1
end
def o1:ag:=zh 1 0 1 0
def o2:ag:={ zh 2 1 1 1 with to:=2,aP:=2,cap:=9}
def o3:ag:={ zh 3 3 2 2 with Kt:=1}
def o4:ag:={ zh 4 4 2 2 with at_:=⟨0,3⟩,Kt:=2}
def hrow:List ag:=[o1,o2,o3,o4]
theorem JN:cN (zh 4 4 2 2).cells 21 (Dt.mk 0 3).cells=({ zh 4 4 2 2 with at_:=⟨0,3⟩}:ag).cells:=rfl
theorem d3:cN (Dt.mk 0 0).cells 1 [.d (.int .u32 3)]=(Dt.mk 0 3).cells:=rfl
theorem d4:cN (Dt.mk 0 0).cells 1 [.d (.int .u32 4)]=(Dt.mk 0 4).cells:=rfl
attribute [local irreducible] SW RW aF SC ai aq
end
section
def hc1:Cr:=⟨⟨0,1⟩,⟨0,1⟩,⟨0,0⟩,1,7,8,1099511627776,0⟩
def G5:Cr:=⟨⟨0,2⟩,⟨0,1⟩,⟨0,1⟩,2,2,0,9,1⟩
theorem Ir {l:List ag}{o:ag}{L:List Cr}{n:Nat}(hL:mE (aA l).at_ (MM.get (aA l).at_ o.at_) L)(h:rB l (aA l).at_ (aA l).made o (fG (aA l).at_ o.aN o.at_ L)=n):gI l o=n:=by
 unfold gI;rw [gy hL];exact h
def Ee:List Cm:=[⟨⟨0,3⟩,⟨0,4⟩⟩]
def N1:ag:={ zh 5 8 2 2 with lines:= .sl 1 (Ee.flatMap Cm.ds)}
theorem N2 {o:ag}(h:o.lines= .sl 0 []):o.mN:=(ag.mN.of (l:=[]) h (by simp)).1
section
variable {S:Sh} (h:bR hrow S)
include h
end
theorem OI:cN (zh 5 8 2 2).cells 28 [.d (.sl 1 (Ee.flatMap Cm.ds))]=N1.cells:=rfl
attribute [local irreducible] SW RW aF SC ai aq
end
end Go.Proofs.YtaelhkkjgfobhaaGreat
