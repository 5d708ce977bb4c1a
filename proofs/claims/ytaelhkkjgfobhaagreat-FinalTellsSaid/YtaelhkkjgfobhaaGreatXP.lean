/-
 Final: waits, verdicts, outcomes are the document's: the statement.
-/
import Derived.Test.YtaelhkkjgfobhaaGreatPH
import Derived.Test.YtaelhkkjgfobhaaGreatRows
import Derived.SizedLaws
import Derived.Test.YtaelhkkjgfobhaaGreatP0
set_option linter.unusedSectionVars false
set_option linter.unusedVariables false
set_option linter.unusedSimpArgs false
namespace Go.Proofs.YtaelhkkjgfobhaaGreat
open Go.Sl Go.Proofs
theorem DF {l:List ag}{o:ag}(h:o∈l){x:DV}(hx:x∈o.ds):x∈l.flatMap ag.ds:=List.mem_flatMap.2 ⟨o,h,hx⟩
theorem DG (o:ag):o.lines∈o.ds:=by simp [ag.ds]
set_option maxRecDepth 100000 in
theorem DH {d:Nat}{ds:List DV}(h:Fit Tryz.prog (d+6) k_ ds)(hs:eX reachBytes ds):∃ x l,ds=[x]∧l.length≤140737488351232∧(∀ o,o∈l→o.kind<256∧o.mN∧o.cl.length≤140737488351232∧o.aP<256∧o.dot.wf)∧
  ∀ (p:Nat→Prop) (μ:Nat→Nm) (M:Mem) (r r':List SV) (hr:∀ vs,aU p μ M r' vs→aU p μ M r vs) (vs:List Value),aU p μ M (.d x::r') vs→aU p μ M (ops l::r) vs:=by
 rcases Jn h with rfl | ⟨l,hl,hn,rfl⟩
 ·exact ⟨.aJ,[],rfl,by simp,by simp,fun p μ M r r' hr vs hv=>yQ hr vs hv⟩
 ·simp only [eX,DV.small,and_true,reachBytes] at hs
  obtain ⟨h1,h2⟩:=hs;rw [ug] at h2;refine ⟨_,l.map ag.nz,rfl,by simpa using h1,fun o ho=> ?_,fun p μ M r r' hr vs hv=> ?_⟩
  ·obtain ⟨q,hq,rfl⟩:=List.mem_map.1 ho
   have hk:=(hl q hq).nz.1;rcases (hl q hq).lines with e | ⟨cl,e,lJ⟩
   ·have:=ag.mN.of (o:=q.nz) (l:=[]) (by show Go.Sl.nz q.lines=_;rw [e];rfl) (by simp)
    exact ⟨hk.kind,this.1,by rw [this.2];simp,hk.aP,hk.dot⟩
   ·have hz:=ag.mN.of (o:=q.nz) (l:=cl) (by show Go.Sl.nz q.lines=_;rw [e];rfl) lJ
    have hm:=h2 _ (DF hq (DG q));rw [e] at hm;simp only [DV.small] at hm;exact ⟨hk.kind,hz.1,by rw [hz.2];exact hm.1,hk.aP,hk.dot⟩
  ·have:=HJ hr vs hv
   rw [← Et] at this
   simpa [ops] using this
theorem mM {H:Type}{P:Program}{n:Nat}{us:List TypeId}{gs:List (DataW H)}:∀ {ts:List TypeId} {ds:List (DataW H)},n∈DataW.weightsEach P ts ds→n∈DataW.weightsEach P (ts++us) (ds++gs)
 | [],_,h=>by simp [DataW.weightsEach] at h
 | _::_,[],h=>by simp [DataW.weightsEach] at h
 | t::ts,d::ds,h=>by
  simp only [DataW.weightsEach,List.mem_append,List.cons_append] at h ⊢;exact h.imp id mM
set_option maxRecDepth 100000 in
theorem Jr (v:Dt):mw Tryz.prog pG v.ds= .agg v.cells:=by rw [xh (n:=2) (by kernel_rfl),Dt.lX]
set_option maxRecDepth 100000 in
theorem vm:∀ vq,sr Tryz.prog 7 Tryz.f5.params.toList vq→(∀ ds,ds∈vq→eX reachBytes ds)→SB Tryz.prog 5 (uj Tryz.prog Tryz.f5.params.toList vq) [] 0 0 fun r F=>r=bl true:=by
 intro vq h hs;have hp: Tryz.f5.params.toList=[k_,ku,pG]:=by kernel_rfl
 rw [hp] at h ⊢;obtain ⟨x0,x1,x2,rfl,h0,h1,h2⟩:=Jq h;obtain ⟨y,l,rfl,hl,ho,hw⟩:=DH (d:=1) h0 (hs _ (by simp));obtain ⟨v1,_,rfl⟩:=B_ (d:=5) h1;obtain ⟨d2,_,rfl⟩:=lT (d:=5) h2;simp only [uj,Jo,Jr,Jp];exact SB.mono (SB.args (zX l v1 d2 (fun o h=>⟨(ho o h).2.2.2.1,(ho o h).1,(ho o h).2.1,(ho o h).2.2.2.2,(ho o h).2.2.1⟩) (by omega)) rfl (fun p μ M vs hv=>hw p μ M _ _ (fun _ h=>h) vs hv)) fun r F h=>h
open Go.ChangeShapes Go.WideShapes Go.ChangeAt Go.RowKit in
set_option maxRecDepth 100000 in
theorem tv (os:Os)(started:os.Started)(H:Type)(enc:TypeId×Value→H):
  ReturnsInHanded {} Tryz.checked os 5 .any (Rows.finalTellsSpec.pre6 enc Tryz.prog Tryz.f5 Rows.finalTellsRow.domain false) (Rows.finalTellsSpec.post enc Tryz.prog Tryz.f5 false true false false):=by
 refine returnsInHanded_of_change_sized (C:= Tryz.checked) own started (by kernel_rfl) Tryz.func5
  (ChangeSpec.witness6 (enc:=enc) (C:= Tryz.checked) false ⟨#[],#[.slice none 0 0,.agg #[.int .u32 0,.int .u32 0,.int .u32 0,.int .u32 0,.int .u32 0,.int .u32 0,.int .u32 0,.int .u32 0],.agg #[.int .u8 0,.int .u32 0]],[]⟩ 8 (by kernel_rfl) (by kernel_rfl) (by kernel_rfl) (by kernel_rfl)) ?_
 intro W base args ds gs before hval hW hcnd hsz _;refine Ch (f:=5) (fn:= Tryz.f5) (spec:=Rows.finalTellsSpec) (tb:=Kz) 7 (by kernel_rfl) (by kernel_rfl) rfl (by kernel_rfl) rfl (fun ds hl=> ?_) reachBytes (fun vq hf hs=> ?_) W base args ds gs before hval hW (Be _) (fun n hn=>by simpa using List.all_eq_true.1 hsz n (mM hn))
 ·rw [show Tryz.f5.params.toList.length=3 from by kernel_rfl] at hl
  match ds,hl with
  | [d0,d1,d2],_=>exact ⟨rfl,rfl,rfl⟩
 ·exact vm vq hf hs
theorem finalTells_holds:Rows.FinalTellsSaid:=
 OpenClaim.holds_of_wide 5 Tryz.f5 rfl rfl rfl rfl rfl rfl rfl ⟨rfl,rfl,rfl,rfl,rfl⟩ rfl rfl rfl rfl rfl (by kernel_rfl) Tryz.func5 (by kernel_rfl)
  (of_decide_eq_true (by kernel_rfl)) (by unfold Func.isWrapper;first | (rw [if_pos (by decide +kernel)];kernel_rfl) | (rw [if_neg (by decide +kernel)];exact ⟨rfl,rfl⟩))
  (fun os started H enc _=>tv os started H enc)
end Go.Proofs.YtaelhkkjgfobhaaGreat
