/-
 Verdicts: the statement VerdictTells.
-/
import Derived.Test.YtaelhkkjgfobhaaGreatRows
import Derived.SizedLaws
import Derived.Test.YtaelhkkjgfobhaaGreatSH
set_option linter.unusedSectionVars false
set_option linter.unusedVariables false
set_option linter.unusedSimpArgs false
namespace Go.Proofs.YtaelhkkjgfobhaaGreat
open Go.Sl Go.Proofs
theorem D_ {l:List ag}{o:ag}(h:o∈l){x:DV}(hx:x∈o.ds):x∈l.flatMap ag.ds:=List.mem_flatMap.2 ⟨o,h,hx⟩
theorem Ea (o:ag):o.lines∈o.ds:=by simp[ag.ds]
set_option maxRecDepth 100000 in
theorem Eb {d:Nat}{ds:List DV}(h:Fit Tryz.prog (d+6) lI ds)(hs:eS reachBytes ds):∃ x l,ds=[x]/\l.length<=140737488351232/\(∀ o,o∈l->o.kind<256/\o.mZ/\o.cl.length<=140737488351232/\o.aT<256/\o.dot.wf)/\
  ∀ (p:Nat->Prop) (μ:Nat->Nm) (M:Mem) (r r':List SV) (hr:∀ vs,aV p μ M r' vs->aV p μ M r vs) (vs:List Value),aV p μ M (.d x::r') vs->aV p μ M (ops l::r) vs:=by
 rcases Kj h with rfl|⟨l,hl,hn,rfl⟩
 .exact⟨.aG,[],rfl,by simp,by simp,λ p μ M r r' hr vs hv=>zz hr vs hv⟩
 .simp only[eS,DV.small,and_true,reachBytes] at hs
  obtain⟨h1,h2⟩:=hs;rw[uJ] at h2;refine⟨_,l.map ag.nz,rfl,by simpa using h1,λ o ho=> ?_,λ p μ M r r' hr vs hv=> ?_⟩
  .obtain⟨q,hq,rfl⟩:=List.mem_map.1 ho
   have hk:=(hl q hq).nz.1;rcases(hl q hq).lines with e|⟨cl,e,lV⟩
   .have:=ag.mZ.of (o:=q.nz) (l:=[]) (by show Go.Sl.nz q.lines=_;rw[e];rfl) (by simp)
    exact⟨hk.kind,this.1,by rw[this.2];simp,hk.aT,hk.dot⟩
   .have hz:=ag.mZ.of (o:=q.nz) (l:=cl) (by show Go.Sl.nz q.lines=_;rw[e];rfl) lV
    have hm:=h2 _ (D_ hq (Ea q));rw[e] at hm;simp only[DV.small] at hm;exact⟨hk.kind,hz.1,by rw[hz.2];exact hm.1,hk.aT,hk.dot⟩
  .have:=IC hr vs hv
   rw[<- E3] at this
   simpa[ops] using this
theorem mY {H:Type}{P:Program}{n:Nat}{us:List TypeId}{gs:List (DataW H)}:∀ {ts:List TypeId} {ds:List (DataW H)},n∈DataW.weightsEach P ts ds->n∈DataW.weightsEach P (ts++us) (ds++gs)
 | [],_,h=>by simp[DataW.weightsEach] at h
 | _::_,[],h=>by simp[DataW.weightsEach] at h
 | t::ts,d::ds,h=>by
  simp only[DataW.weightsEach,List.mem_append,List.cons_append] at h ⊢;exact h.imp id mY
set_option maxRecDepth 100000 in
theorem Kp (v:Dt):ot Tryz.prog pN v.ds= .agg v.cells:=by rw[D0 (n:=2) (by kernel_rfl),Dt.kS]
set_option maxRecDepth 100000 in
theorem th:∀ vY,sF Tryz.prog 7 Tryz.f9.params.toList vY->(∀ ds,ds∈vY->eS reachBytes ds)->SB Tryz.prog 9 (uL Tryz.prog Tryz.f9.params.toList vY) [] 0 0 λ r F=>r=bl true:=by
 intro vY h hs;have hp: Tryz.f9.params.toList=[lI,pN]:=by kernel_rfl
 rw[hp] at h ⊢;obtain⟨x0,x1,rfl,h0,h1⟩:=Kl h;obtain⟨y,l,rfl,hl,ho,hw⟩:=Eb (d:=1) h0 (hs _ (by simp));obtain⟨v,_,rfl⟩:=mu (d:=5) h1;simp only[uL,Kk,Kp];exact SB.mono (SB.args (Az l v (λ o h=>⟨(ho o h).2.2.2.1,(ho o h).1,(ho o h).2.1,(ho o h).2.2.2.2,(ho o h).2.2.1⟩) (by omega)) rfl (λ p μ M vs hv=>hw p μ M _ _ (λ _ h=>h) vs hv)) λ r F h=>h
open Go.ChangeShapes Go.WideShapes Go.ChangeAt Go.RowKit in
set_option maxRecDepth 100000 in
theorem r8 (os:Os)(started:os.Started)(H:Type)(enc:TypeId×Value->H):
  ReturnsInHanded {} Tryz.checked os 9 .any (Rows.verdictTellsSpec.pre6 enc Tryz.prog Tryz.f9 Rows.verdictTellsRow.domain false) (Rows.verdictTellsSpec.post enc Tryz.prog Tryz.f9 false true false false):=by
 refine returnsInHanded_of_change_sized (C:= Tryz.checked) own started (by kernel_rfl) Tryz.func9
  (ChangeSpec.witness6 (enc:=enc) (C:= Tryz.checked) false ⟨#[],#[.slice none 0 0,.agg #[.int .u8 0,.int .u32 0]],[]⟩ 8 (by kernel_rfl) (by kernel_rfl) (by kernel_rfl) (by kernel_rfl)) ?_
 intro W base args ds gs before hval hW hcnd hsz _;refine CE (f:=9) (fn:= Tryz.f9) (spec:=Rows.verdictTellsSpec) (tb:=LG) 7 (by kernel_rfl) (by kernel_rfl) rfl (by kernel_rfl) rfl (λ ds hl=> ?_) reachBytes (λ vY hf hs=> ?_) W base args ds gs before hval hW (BD _) (λ n hn=>by simpa using List.all_eq_true.1 hsz n (mY hn))
 .rw[show Tryz.f9.params.toList.length=2 from by kernel_rfl] at hl
  match ds,hl with
  | [d0,d1],_=>exact⟨rfl,rfl,rfl⟩
 .exact th vY hf hs
theorem verdictTells_holds:Rows.VerdictTellsSaid:=
 OpenClaim.holds_of_wide 9 Tryz.f9 rfl rfl rfl rfl rfl rfl rfl ⟨rfl,rfl,rfl,rfl,rfl⟩ rfl rfl rfl rfl rfl (by kernel_rfl) Tryz.func9 (by kernel_rfl)
  (of_decide_eq_true (by kernel_rfl)) (by unfold Func.isWrapper;first|(rw[if_pos (by decide +kernel)];kernel_rfl)|(rw[if_neg (by decide +kernel)];exact⟨rfl,rfl⟩))
  (λ os started H enc _=>r8 os started H enc)
end Go.Proofs.YtaelhkkjgfobhaaGreat
