/-
 Final: where more is stable: the statement.
-/
import Derived.Test.YtaelhkkjgfobhaaGreatPH
import Derived.Test.YtaelhkkjgfobhaaGreatRows
import Derived.SizedLaws
import Derived.Test.YtaelhkkjgfobhaaGreatP0
set_option linter.unusedSectionVars false
set_option linter.unusedVariables false
set_option linter.unusedSimpArgs false
namespace Go.Proofs.YtaelhkkjgfobhaaGreat
open Go.Sl Go.Proofs
theorem Cb {l:List ag}{o:ag}(h:o∈l){x:DV}(hx:x∈o.ds):x∈l.flatMap ag.ds:=List.mem_flatMap.2 ⟨o,h,hx⟩
theorem Cc (o:ag):o.lines∈o.ds:=by simp [ag.ds]
set_option maxRecDepth 100000 in
theorem Cd {d:Nat}{ds:List DV}(h:Fit Tryz.prog (d+6) j3 ds)(hs:eu reachBytes ds):∃ x l,ds=[x]∧l.length≤140737488351232∧(∀ o,o∈l→o.kind<256∧o.mS∧o.cl.length≤140737488351232∧o.bn<256∧o.dot.wf)∧
  ∀ (p:Nat→Prop) (μ:Nat→Nm) (M:Mem) (r r':List SV) (hr:∀ vs,aN p μ M r' vs→aN p μ M r vs) (vs:List Value),aN p μ M (.d x::r') vs→aN p μ M (ops l::r) vs:=by
 rcases Hu h with rfl | ⟨l,hl,hn,rfl⟩
 ·exact ⟨.aP,[],rfl,by simp,by simp,fun p μ M r r' hr vs hv=>xA hr vs hv⟩
 ·simp only [eu,DV.small,and_true,reachBytes] at hs
  obtain ⟨h1,h2⟩:=hs;rw [sP] at h2;refine ⟨_,l.map ag.nz,rfl,by simpa using h1,fun o ho=> ?_,fun p μ M r r' hr vs hv=> ?_⟩
  ·obtain ⟨q,hq,rfl⟩:=List.mem_map.1 ho
   have hk:=(hl q hq).nz.1;rcases (hl q hq).lines with e | ⟨cl,e,kU⟩
   ·have:=ag.mS.of (o:=q.nz) (l:=[]) (by show Go.Sl.nz q.lines=_;rw [e];rfl) (by simp)
    exact ⟨hk.kind,this.1,by rw [this.2];simp,hk.bn,hk.dot⟩
   ·have hz:=ag.mS.of (o:=q.nz) (l:=cl) (by show Go.Sl.nz q.lines=_;rw [e];rfl) kU
    have hm:=h2 _ (Cb hq (Cc q));rw [e] at hm;simp only [DV.small] at hm;exact ⟨hk.kind,hz.1,by rw [hz.2];exact hm.1,hk.bn,hk.dot⟩
  ·have:=F8 hr vs hv
   rw [← C7] at this
   simpa [ops] using this
theorem lR {H:Type}{P:Program}{n:Nat}{us:List TypeId}{gs:List (DataW H)}:∀ {ts:List TypeId} {ds:List (DataW H)},n∈DataW.weightsEach P ts ds→n∈DataW.weightsEach P (ts++us) (ds++gs)
 | [],_,h=>by simp [DataW.weightsEach] at h
 | _::_,[],h=>by simp [DataW.weightsEach] at h
 | t::ts,d::ds,h=>by
  simp only [DataW.weightsEach,List.mem_append,List.cons_append] at h ⊢;exact h.imp id lR
set_option maxRecDepth 100000 in
theorem Hy (v:Dt):kY Tryz.prog qV v.ds= .agg v.cells:=by rw [vt (n:=2) (by kernel_rfl),Dt.oZ]
set_option maxRecDepth 100000 in
theorem uj:∀ tO,qK Tryz.prog 7 Tryz.f6.params.toList tO→(∀ ds,ds∈tO→eu reachBytes ds)→SB Tryz.prog 6 (sR Tryz.prog Tryz.f6.params.toList tO) [] 0 0 fun r F=>r=bl true:=by
 intro tO h hs;have hp: Tryz.f6.params.toList=[j3,h9,h9]:=by kernel_rfl
 rw [hp] at h ⊢;obtain ⟨x0,x1,x2,rfl,h0,h1,h2⟩:=Hx h;obtain ⟨y,l,rfl,hl,ho,hw⟩:=Cd (d:=1) h0 (hs _ (by simp))
 obtain ⟨v1,_,rfl⟩:=wJ (d:=5) h1;obtain ⟨v2,_,rfl⟩:=wJ (d:=5) h2;simp only [sR,Hv,Hy,Hw];exact SB.mono (SB.args (zM l v1 v2 (fun o h=>⟨(ho o h).2.2.2.1,(ho o h).1,(ho o h).2.1,(ho o h).2.2.2.2,(ho o h).2.2.1⟩) (by omega)) rfl (fun p μ M vs hv=>hw p μ M _ _ (fun _ h=>h) vs hv)) fun r F h=>h
open Go.ChangeShapes Go.WideShapes Go.ChangeAt Go.RowKit in
set_option maxRecDepth 100000 in
theorem tM (os:Os)(started:os.Started)(H:Type)(enc:TypeId×Value→H):
  ReturnsInHanded {} Tryz.checked os 6 .any (Rows.finalMoreSpec.pre6 enc Tryz.prog Tryz.f6 Rows.finalMoreRow.domain false) (Rows.finalMoreSpec.post enc Tryz.prog Tryz.f6 false true false false):=by
 refine returnsInHanded_of_change_sized (C:= Tryz.checked) own started (by kernel_rfl) Tryz.func6
  (ChangeSpec.witness6 (enc:=enc) (C:= Tryz.checked) false ⟨#[],#[.slice none 0 0,.agg #[.int .u32 0,.int .u32 0,.int .u32 0,.int .u32 0,.int .u32 0,.int .u32 0,.int .u32 0,.int .u32 0],.agg #[.int .u32 0,.int .u32 0,.int .u32 0,.int .u32 0,.int .u32 0,.int .u32 0,.int .u32 0,.int .u32 0]],[]⟩ 8 (by kernel_rfl) (by kernel_rfl) (by kernel_rfl) (by kernel_rfl)) ?_
 intro W base args ds gs before hval hW hcnd hsz _;refine AZ (f:=6) (fn:= Tryz.f6) (spec:=Rows.finalMoreSpec) (tb:=IP) 7 (by kernel_rfl) (by kernel_rfl) rfl (by kernel_rfl) rfl (fun ds hl=> ?_) reachBytes (fun tO hf hs=> ?_) W base args ds gs before hval hW (zN _) (fun n hn=>by simpa using List.all_eq_true.1 hsz n (lR hn))
 ·rw [show Tryz.f6.params.toList.length=3 from by kernel_rfl] at hl
  match ds,hl with
  | [d0,d1,d2],_=>exact ⟨rfl,rfl,rfl⟩
 ·exact uj tO hf hs
theorem finalMore_holds:Rows.FinalMoreSaid:=
 OpenClaim.holds_of_wide 6 Tryz.f6 rfl rfl rfl rfl rfl rfl rfl ⟨rfl,rfl,rfl,rfl,rfl⟩ rfl rfl rfl rfl rfl (by kernel_rfl) Tryz.func6 (by kernel_rfl)
  (of_decide_eq_true (by kernel_rfl)) (by unfold Func.isWrapper;first | (rw [if_pos (by decide +kernel)];kernel_rfl) | (rw [if_neg (by decide +kernel)];exact ⟨rfl,rfl⟩))
  (fun os started H enc _=>tM os started H enc)
end Go.Proofs.YtaelhkkjgfobhaaGreat
