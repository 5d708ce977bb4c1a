/-
 Revoke: what the index says is what the document says (plain).
-/
import Derived.Test.YtaelhkkjgfobhaaGreatPW
import Derived.Test.YtaelhkkjgfobhaaGreatPS
import Derived.Test.YtaelhkkjgfobhaaGreatP6
import Derived.Test.YtaelhkkjgfobhaaGreatPN
set_option linter.unusedSectionVars false
set_option linter.unusedVariables false
set_option linter.unusedSimpArgs false
namespace Go.Proofs.YtaelhkkjgfobhaaGreat
open Go.Sl Go.Proofs
section
theorem zq {l:List ag}{s:List Dt}{p:Dt→Bool}(h:∀ v,v∈s↔gU l v=true∧p v=true):Dt.set s=(tC l).filter p:=
 Dt.ij (Dt.i_ _) ((Dt.i_ _).filter _) fun v=>by rw [Dt.mem_set,h,List.mem_filter,vi]
section
variable {l:List ag} {S:Sh} (h:bI l S)
include h
theorem bI.AH (d:Dt):S.good d=gU l d:=h.good d
theorem bI.Mg {d:Dt}(hg:S.good d=true):Dt.set (h.X.dY (h.X.op d))=(tC l).filter (G6 l d):=by
 refine zq fun v=> ?_
 rw [h.Me hg,h.Lf hg,Sh.AD,h.mJ,h.base.op,h.base.op,← h.AH];unfold G6 Jx;simp only [Bool.and_eq_true,decide_eq_true_eq,Bool.not_eq_true'];constructor
 ·rintro ⟨_,h1,h2,h3,h4⟩
  exact ⟨h1,h2,h3,h4⟩
 ·rintro ⟨h1,h2,h3,h4⟩
  exact ⟨(h.EL.2 h1).1,h1,h2,h3,h4⟩
end
end
section
attribute [local irreducible] SW RW aF SC aj ak jl wN M_
abbrev Sh.g11 (S:Sh):Hp:=[(11,.box 117 [.ptr 3 0,.mp 8,.mp 9,.mp 10]),(8,.map (ai Dt.cells ov S.ops) S.co),(9,.map (ai Dt.cells iv S.fh) S.ca),(10,.map (ai Dt.cells dv S.kP) S.cl),
 (3,.box 166 [.mp 1,.mp 2]),(1,.map (ai Dt.cells cv S.tr) S.ct),(2,.map (ai Dt.cells ov S.md) S.cm)]
abbrev hX1 (S:Sh)(X:Ix):Hp:=(15,.box 110 [.any,.mp 12,.mp 13,.mp 14])::(14,.map (ai Dt.cells dn X.kB) X.cf)::(13,.map (ai Dt.cells dn X.ch) X.cc)::(12,.map (ai Dt.cells ov X.ops) X.co)::S.g11
theorem G7 (S:Sh)(X:Ix):Hp.aB (· +1) (hX S X)=hX1 S X:=by
 simp only [Hp.aB,List.map_cons,List.map_nil,Ob.aB,SV.aK,SV.aB,dg,bz,dI,bV,dX]
theorem Jz (l:List ag)(hl:l.length<1000000000)(hd:∀ o,o∈l→o.kind<256∧o.mS):SC Tryz.prog shape_New.f [ops l] [] 1 11 fun r F=>∃ S,bI l S∧r= .ptr 11 0∧F=S.g11:=GC l hl hd 1
theorem bI.JA {l:List ag}{S:Sh}(h:bI l S)(hl:l.length≤80)(hs:iD S):aF Tryz.prog revoke_New.f [.ptr 11 0] S.g11 12 4 (.ptr 15 0) (hX1 S h.X):=by
 have:=h.Lg hl hs 1;rw [G7,S.Aw 1] at this;exact this
end
end Go.Proofs.YtaelhkkjgfobhaaGreat
