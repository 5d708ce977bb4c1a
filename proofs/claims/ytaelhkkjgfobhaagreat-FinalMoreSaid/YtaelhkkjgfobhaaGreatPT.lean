/-
 Revoke: the document's chains, those that are well-formed, levels.
-/
import Derived.Test.YtaelhkkjgfobhaaGreatP6
import Derived.Test.YtaelhkkjgfobhaaGreatPS
import Derived.Test.YtaelhkkjgfobhaaGreatPM
set_option linter.unusedSectionVars false
set_option linter.unusedVariables false
set_option linter.unusedSimpArgs false
namespace Go.Proofs.YtaelhkkjgfobhaaGreat
open Go.Sl Go.Proofs
section
attribute [local irreducible] SW RW aF SC aj ak
noncomputable def gU (l:List ag)(d:Dt):Bool:=match bB l d with
 | some o=>decide (oF l o=0)
 | none=>false
section
variable {l:List ag} (hl:l.length≤80) (hd:∀ x,x∈l→x.bn<256∧x.mS∧x.dot.wf)
include hl hd
noncomputable def Jx (l:List ag)(r o:ag):Bool:=decide (r.kind=2) && (decide (r.at_∈j_ l o) && !o.before r)
end
end
section
attribute [local irreducible] SW RW aF SC aj ak
theorem G5 (s:List Dt)(x:Dt):(s++[x]).length=s.length+ [x].length:=by simp
theorem Jy (s:List Dt)(x:Dt):List.map SV.d ((s++[x]).flatMap Dt.ds)=List.map SV.d (s.flatMap Dt.ds)++List.map SV.d ([x].flatMap Dt.ds):=by simp
noncomputable def AG (l:List ag):List Dt:=(l.filter fun o=>gU l o.dot).map (·.dot)
noncomputable def tC (l:List ag):List Dt:=Dt.set (AG l)
theorem vi {l:List ag}{d:Dt}:d∈tC l↔gU l d=true:=by
 unfold tC AG;rw [Dt.mem_set,List.mem_map];constructor
 ·rintro ⟨o,ho,rfl⟩
  exact (List.mem_filter.1 ho).2
 ·intro h
  unfold gU at h;cases hf:bB l d with
  | none=>rw [hf] at h;cases h
  | some o=>
   have hd:=jL hf;refine ⟨o,List.mem_filter.2 ⟨q_ hf,?_⟩,hd⟩;rw [hd];unfold gU;rw [hf] at h ⊢;exact h
section
variable {l:List ag} (hl:l.length≤80) (hd:∀ x,x∈l→x.bn<256∧x.mS∧x.dot.wf)
include hl hd
end
end
section
attribute [local irreducible] SW RW aF SC aj ak
noncomputable def G6 (l:List ag)(d:Dt)(v:Dt):Bool:=Jx l (tQ l v) (tQ l d)
section
variable {l:List ag} (hl:l.length≤80) (hd:∀ x,x∈l→x.bn<256∧x.mS∧x.dot.wf)
include hl hd
end
end
end Go.Proofs.YtaelhkkjgfobhaaGreat
