/-
 Rows of rows that grow: names, what stands there; all are frozen (plain, and one rule).
-/
import Derived.Test.YtaelhkkjgfobhaaGreatPO
import Derived.Test.YtaelhkkjgfobhaaGreatP6
import Derived.Test.YtaelhkkjgfobhaaGreatPT
import Derived.Test.YtaelhkkjgfobhaaGreatPR
set_option linter.unusedSectionVars false
set_option linter.unusedVariables false
set_option linter.unusedSimpArgs false
namespace Go.Proofs.YtaelhkkjgfobhaaGreat
open Go.Sl Go.Proofs
section
abbrev RG:=List (Nat×List Dt)
structure Oe (G:RG)(kk:Nat):Prop where
 inj:∀ (i j:Nat) (x y:Nat×List Dt),G[i]? =some x→G[j]? =some y→x.2≠[]→y.2≠[]→x.1=y.1→i=j
 bd:∀ x,x∈G→x.2≠[]→x.1<kk
section
variable {P:Program} {N k0:Nat} {Q:Exit→St→Prop}
end
end
section
attribute [local irreducible] SW RW aF SC ai aq
def Pc (c:Dt→Nat)(seen:List Dt):Nat:=seen.foldl (fun m v=>max m (c v+1)) 0
structure RI (c:Dt→Nat)(seen:List Dt)(t:Nat)(G:RG):Prop where
 len:G.length=max (Pc c seen) t
 row:∀ j x,G[j]? =some x→x.2=seen.filter fun v=>decide (c v=j)
structure RQ (c:Dt→Nat)(seen:List Dt)(t:Nat)(G:RG)(a kk:Nat):Prop where
 ri:RI c seen t G
 ok:Oe G kk
 la:a<kk
 na:∀ x,x∈G→x.2≠[]→x.1≠a
section
variable {l:List ag} (hl:l.length≤80) (hd:∀ x,x∈l→x.aP<256∧x.mN∧x.dot.wf)
include hl hd
end
end
section
attribute [local irreducible] SW RW aF SC ai aq
def Ix.va (X:Ix)(d:Dt):Nat:=(X.nY d).length
def Pd:Nat:=3000
end
end Go.Proofs.YtaelhkkjgfobhaaGreat
