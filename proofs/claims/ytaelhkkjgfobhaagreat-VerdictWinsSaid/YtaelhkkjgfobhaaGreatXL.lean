/-
 Verdicts: the statement VerdictWins.
-/
import Derived.Test.YtaelhkkjgfobhaaGreatRows
import Derived.SizedLaws
import Derived.Test.YtaelhkkjgfobhaaGreatVH
set_option linter.unusedSectionVars false
set_option linter.unusedVariables false
set_option linter.unusedSimpArgs false
namespace Go.Proofs.YtaelhkkjgfobhaaGreat
open Go.Sl Go.Proofs
theorem Dn {l:List ag}{o:ag}(h:o∈l){x:DV}(hx:x∈o.ds):x∈l.flatMap ag.ds:=List.mem_flatMap.2 ⟨o,h,hx⟩
theorem Dp (o:ag):o.lines∈o.ds:=by simp [ag.ds]
set_option maxRecDepth 100000 in
theorem Dq {d:Nat}{ds:List DV}(h:Fit Tryz.prog (d+6) kX ds)(hs:eC reachBytes ds):∃ x l,ds=[x]/\l.length<=140737488351232/\(∀ o,o∈l->o.kind<256/\o.nT/\o.cl.length<=140737488351232/\o.aT<256/\o.dot.wf)/\
  ∀ (p:Nat->Prop) (μ:Nat->Nm) (M:Mem) (r r':List SV) (hr:∀ vs,aS p μ M r' vs->aS p μ M r vs) (vs:List Value),aS p μ M (.d x::r') vs->aS p μ M (ops l::r) vs:=by
 rcases Jr h with rfl | ⟨l,hl,hn,rfl⟩
 .exact ⟨.aN,[],rfl,by simp,by simp,λ p μ M r r' hr vs hv=>yH hr vs hv⟩
 .simp only [eC,DV.small,and_true,reachBytes] at hs
  obtain ⟨h1,h2⟩:=hs;rw [t_] at h2;refine ⟨_,l.map ag.nz,rfl,by simpa using h1,λ o ho=> ?_,λ p μ M r r' hr vs hv=> ?_⟩
  .obtain ⟨q,hq,rfl⟩:=List.mem_map.1 ho
   have hk:=(hl q hq).nz.1;rcases (hl q hq).lines with e | ⟨cl,e,lE⟩
   .have:=ag.nT.of (o:=q.nz) (l:=[]) (by show Go.Sl.nz q.lines=_;rw [e];rfl) (by simp)
    exact ⟨hk.kind,this.1,by rw [this.2];simp,hk.aT,hk.dot⟩
   .have hz:=ag.nT.of (o:=q.nz) (l:=cl) (by show Go.Sl.nz q.lines=_;rw [e];rfl) lE
    have hm:=h2 _ (Dn hq (Dp q));rw [e] at hm;simp only [DV.small] at hm;exact ⟨hk.kind,hz.1,by rw [hz.2];exact hm.1,hk.aT,hk.dot⟩
  .have:=HA hr vs hv
   rw [<- Ec] at this
   simpa [ops] using this
theorem mI {H:Type}{P:Program}{n:Nat}{us:List TypeId}{gs:List (DataW H)}:∀ {ts:List TypeId} {ds:List (DataW H)},n∈DataW.weightsEach P ts ds->n∈DataW.weightsEach P (ts++us) (ds++gs)
 | [],_,h=>by simp [DataW.weightsEach] at h
 | _::_,[],h=>by simp [DataW.weightsEach] at h
 | t::ts,d::ds,h=>by
  simp only [DataW.weightsEach,List.mem_append,List.cons_append] at h ⊢;exact h.imp id mI
theorem Jt {P:Program}{d:Nat}{t1:TypeId}{vh:List (List DV)}(h:rS P d [t1] vh):∃ x0,vh=[x0]/\Fit P d t1 x0:=by
 match vh,h with
 | [x0],h=>
  simp only [rS] at h;exact ⟨x0,rfl,h.1⟩
set_option maxRecDepth 100000 in
theorem tc:∀ vh,rS Tryz.prog 7 Tryz.f10.params.toList vh->(∀ ds,ds∈vh->eC reachBytes ds)->SB Tryz.prog 10 (uc Tryz.prog Tryz.f10.params.toList vh) [] 0 0 λ r F=>r=bl true:=by
 intro vh h hs;have hp: Tryz.f10.params.toList=[kX]:=by kernel_rfl
 rw [hp] at h ⊢;obtain ⟨x0,rfl,h0⟩:=Jt h;obtain ⟨y,l,rfl,hl,ho,hw⟩:=Dq (d:=1) h0 (hs _ (by simp));simp only [uc,Js];exact SB.mono (SB.args (AW l (λ o h=>⟨(ho o h).2.2.2.1,(ho o h).1,(ho o h).2.1,(ho o h).2.2.2.2,(ho o h).2.2.1⟩) (by omega)) rfl (λ p μ M vs hv=>hw p μ M _ _ (λ _ h=>h) vs hv)) λ r F h=>h
open Go.ChangeShapes Go.WideShapes Go.ChangeAt Go.RowKit in
set_option maxRecDepth 100000 in
theorem sE (os:Os)(started:os.Started)(H:Type)(enc:TypeId×Value->H):
  ReturnsInHanded {} Tryz.checked os 10 .any (Rows.verdictWinsSpec.pre6 enc Tryz.prog Tryz.f10 Rows.verdictWinsRow.domain false) (Rows.verdictWinsSpec.post enc Tryz.prog Tryz.f10 false true false false):=by
 refine returnsInHanded_of_change_sized (C:= Tryz.checked) own started (by kernel_rfl) Tryz.func10
  (ChangeSpec.witness6 (enc:=enc) (C:= Tryz.checked) false ⟨#[],#[.slice none 0 0],[]⟩ 8 (by kernel_rfl) (by kernel_rfl) (by kernel_rfl) (by kernel_rfl)) ?_
 intro W base args ds gs before hval hW hcnd hsz _;refine B0 (f:=10) (fn:= Tryz.f10) (spec:=Rows.verdictWinsSpec) (tb:=KB) 7 (by kernel_rfl) (by kernel_rfl) rfl (by kernel_rfl) rfl (λ ds hl=> ?_) reachBytes (λ vh hf hs=> ?_) W base args ds gs before hval hW (AX _) (λ n hn=>by simpa using List.all_eq_true.1 hsz n (mI hn))
 .rw [show Tryz.f10.params.toList.length=1 from by kernel_rfl] at hl
  match ds,hl with
  | [d0],_=>exact ⟨rfl,rfl,rfl⟩
 .exact tc vh hf hs
theorem verdictWins_holds:Rows.VerdictWinsSaid:=
 OpenClaim.holds_of_wide 10 Tryz.f10 rfl rfl rfl rfl rfl rfl rfl ⟨rfl,rfl,rfl,rfl,rfl⟩ rfl rfl rfl rfl rfl (by kernel_rfl) Tryz.func10 (by kernel_rfl)
  (of_decide_eq_true (by kernel_rfl)) (by unfold Func.isWrapper;first | (rw [if_pos (by decide +kernel)];kernel_rfl) | (rw [if_neg (by decide +kernel)];exact ⟨rfl,rfl⟩))
  (λ os started H enc _=>sE os started H enc)
end Go.Proofs.YtaelhkkjgfobhaaGreat
