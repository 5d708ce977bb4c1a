/-
 Revoke: what the index says is what the document says (plain).
-/
import Derived.Test.YtaelhkkjgfobhaaGreatUW
import Derived.Test.YtaelhkkjgfobhaaGreatUS
import Derived.Test.YtaelhkkjgfobhaaGreatU6
import Derived.Test.YtaelhkkjgfobhaaGreatUN
set_option linter.unusedSectionVars false
set_option linter.unusedVariables false
set_option linter.unusedSimpArgs false
namespace Go.Proofs.YtaelhkkjgfobhaaGreat
open Go.Sl Go.Proofs
section
theorem Az {l:List ag}{s:List Dt}{p:Dt→Bool}(h:∀ v,v∈s↔dx l v=true∧p v=true):Dt.set s=(bD l).filter p:=
 Dt.iZ (Dt.jA _) ((Dt.jA _).filter _) fun v=>by rw [Dt.mem_set,h,List.mem_filter,wv]
section
variable {l:List ag} {S:Sh} (h:bP l S)
include h
theorem bP.Bz (d:Dt):S.good d=dx l d:=h.good d
theorem bP.NH {d:Dt}(hg:S.good d=true):Dt.set (h.X.eH (h.X.op d))=(bD l).filter (mA l d):=by
 refine Az fun v=> ?_
 rw [h.NF hg,h.MA hg,Sh.Bv,h.nS,h.base.op,h.base.op,← h.Bz];unfold mA uQ;simp only [Bool.and_eq_true,decide_eq_true_eq,Bool.not_eq_true'];constructor
 ·rintro ⟨_,h1,h2,h3,h4⟩
  exact ⟨h1,h2,h3,h4⟩
 ·rintro ⟨h1,h2,h3,h4⟩
  exact ⟨(h.FR.2 h1).1,h1,h2,h3,h4⟩
end
end
section
attribute [local irreducible] SW RW aG SC ai aq jQ zc OH
abbrev Sh.g11 (S:Sh):Hp:=[(11,.box 117 [.ptr 3 0,.mp 8,.mp 9,.mp 10]),(8,.map (au Dt.cells ov S.ops) S.co),(9,.map (au Dt.cells iv S.fS) S.ca),(10,.map (au Dt.cells dv S.lS) S.cl),
 (3,.box 166 [.mp 1,.mp 2]),(1,.map (au Dt.cells cv S.tr) S.ct),(2,.map (au Dt.cells ov S.md) S.cm)]
abbrev hX1 (S:Sh)(X:Ix):Hp:=(15,.box 110 [.any,.mp 12,.mp 13,.mp 14])::(14,.map (au Dt.cells dn X.lE) X.cf)::(13,.map (au Dt.cells dn X.ch) X.cc)::(12,.map (au Dt.cells ov X.ops) X.co)::S.g11
theorem Iy (S:Sh)(X:Ix):Hp.aC (· +1) (hX S X)=hX1 S X:=by
 simp only [Hp.aC,List.map_cons,List.map_nil,Ob.aC,SV.aT,SV.aC,dB,bH,dV,cg,eG]
theorem KX (l:List ag)(hl:l.length<1000000000)(hd:∀ o,o∈l→o.kind<256∧o.nQ):SC Tryz.prog shape_New.f [ops l] [] 1 11 fun r F=>∃ S,bP l S∧r= .ptr 11 0∧F=S.g11:=HM l hl hd 1
theorem bP.KY {l:List ag}{S:Sh}(h:bP l S)(hl:l.length≤80)(hs:ji S):aG Tryz.prog revoke_New.f [.ptr 11 0] S.g11 12 4 (.ptr 15 0) (hX1 S h.X):=by
 have:=h.MB hl hs 1;rw [Iy,S.Bm 1] at this;exact this
end
end Go.Proofs.YtaelhkkjgfobhaaGreat
