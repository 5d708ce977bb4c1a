/-
 Revoke: what the index says is what the document says (plain).
-/
import Derived.Test.YtaelhkkjgfobhaaGreatPW
import Derived.Test.YtaelhkkjgfobhaaGreatPS
import Derived.Test.YtaelhkkjgfobhaaGreatP6
import Derived.Test.YtaelhkkjgfobhaaGreatPN
set_option linter.unusedSectionVars false
set_option linter.unusedVariables false
set_option linter.unusedSimpArgs false
namespace Go.Proofs.YtaelhkkjgfobhaaGreat
open Go.Sl Go.Proofs
section
theorem AZ {l:List ag}{s:List Dt}{p:Dt→Bool}(h:∀ v,v∈s↔di l v=true∧p v=true):Dt.set s=(bI l).filter p:=
 Dt.jh (Dt.jK _) ((Dt.jK _).filter _) fun v=>by rw [Dt.mem_set,h,List.mem_filter,wT]
section
variable {l:List ag} {S:Sh} (h:bR l S)
include h
theorem bR.B0 (d:Dt):S.good d=di l d:=h.good d
theorem bR.Of {d:Dt}(hg:S.good d=true):Dt.set (h.X.eO (h.X.op d))=(bI l).filter (mK l d):=by
 refine AZ fun v=> ?_
 rw [h.Oc hg,h.M8 hg,Sh.BX,h.nY,h.base.op,h.base.op,← h.B0];unfold mK u_;simp only [Bool.and_eq_true,decide_eq_true_eq,Bool.not_eq_true'];constructor
 ·rintro ⟨_,h1,h2,h3,h4⟩
  exact ⟨h1,h2,h3,h4⟩
 ·rintro ⟨h1,h2,h3,h4⟩
  exact ⟨(h.Gk.2 h1).1,h1,h2,h3,h4⟩
end
end
section
attribute [local irreducible] SW RW aF SC ai aq j6 Ac Pd
abbrev Sh.g11 (S:Sh):Hp:=[(11,.box 117 [.ptr 3 0,.mp 8,.mp 9,.mp 10]),(8,.map (au Dt.cells ov S.ops) S.co),(9,.map (au Dt.cells iv S.fZ) S.ca),(10,.map (au Dt.cells dv S.l9) S.cl),
 (3,.box 166 [.mp 1,.mp 2]),(1,.map (au Dt.cells cv S.tr) S.ct),(2,.map (au Dt.cells ov S.md) S.cm)]
abbrev hX1 (S:Sh)(X:Ix):Hp:=(15,.box 110 [.any,.mp 12,.mp 13,.mp 14])::(14,.map (au Dt.cells dn X.lR) X.cf)::(13,.map (au Dt.cells dn X.ch) X.cc)::(12,.map (au Dt.cells ov X.ops) X.co)::S.g11
theorem I8 (S:Sh)(X:Ix):Hp.aC (· +1) (hX S X)=hX1 S X:=by
 simp only [Hp.aC,List.map_cons,List.map_nil,Ob.aC,SV.aT,SV.aC,dG,bK,dZ,cH,eN]
theorem Lu (l:List ag)(hl:l.length<1000000000)(hd:∀ o,o∈l→o.kind<256∧o.mN):SC Tryz.prog shape_New.f [ops l] [] 1 11 fun r F=>∃ S,bR l S∧r= .ptr 11 0∧F=S.g11:=Iq l hl hd 1
theorem bR.Lv {l:List ag}{S:Sh}(h:bR l S)(hl:l.length≤80)(hs:jv S):aF Tryz.prog revoke_New.f [.ptr 11 0] S.g11 12 4 (.ptr 15 0) (hX1 S h.X):=by
 have:=h.M9 hl hs 1;rw [I8,S.BO 1] at this;exact this
theorem rP (A:List Dt)(hA:A.length<1000000000)(k:Nat):aF Tryz.prog ref03_Same.f [aW A,aW A] [] k 0 (bl true) []:=by
 have:=tI A A (by omega) (by omega) k
 rwa [decide_eq_true rfl] at this
theorem Dd (A:List Dt)(hA:A.length<1000000000)(k:Nat):aF Tryz.prog ref03_Same.f [aW A,dn A] [] k 0 (bl true) []:=by
 have:=rP A hA k;unfold aF at this ⊢;exact SC.Od (a:=[aW A]) A this
theorem De (k:Nat):aF Tryz.prog ref03_Same.f [.d .aJ,.d .aJ] [] k 0 (bl true) []:=by
 have:=Dd [] (by decide) k;unfold aF at this ⊢;exact SC.Od (a:=[]) (b:=[.d .aJ]) [] this
end
end Go.Proofs.YtaelhkkjgfobhaaGreat
