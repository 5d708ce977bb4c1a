/-
 Revoke: who is threatened, one by one: the inner client.
-/
import Derived.Test.YtaelhkkjgfobhaaGreatP6
import Derived.Test.YtaelhkkjgfobhaaGreatPQ
set_option linter.unusedSectionVars false
set_option linter.unusedVariables false
set_option linter.unusedSimpArgs false
namespace Go.Proofs.YtaelhkkjgfobhaaGreat
open Go.Sl Go.Proofs
section
attribute [local irreducible] SW RW aF SC ai aq j6
section
variable {σ:Type} {Fh:σ→Hp} {nx:σ→ag→Nat→σ} {inv:σ→Nat→Prop} {aQ y z b5 b3 b2:Nat}
end
end
section
attribute [local irreducible] SW RW aF SC ai aq j6
def Ac (aQ:Nat):Nat:=2+1000*(4+j6 (1+aQ))
section
variable {σ:Type} {Fh:σ→Hp} {nx:σ→ag→Nat→σ} {inv:σ→Nat→Prop} {aQ y k:Nat}
theorem I4 (q:Nat→Bool)(m:Nat)(a:Nat)(l:List Nat)(b:Nat)(h:q m=true):(Ob.iter (some m) a l b).ok q=true:=h
end
end
section
attribute [local irreducible] SW RW aF SC ai aq j6 Ac
end
end Go.Proofs.YtaelhkkjgfobhaaGreat
