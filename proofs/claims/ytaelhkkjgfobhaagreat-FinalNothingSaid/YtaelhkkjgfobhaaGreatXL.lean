/-
 Final: where nothing is stable: the statement.
-/
import Derived.Test.YtaelhkkjgfobhaaGreatUH
import Derived.Test.YtaelhkkjgfobhaaGreatRows
import Derived.SizedLaws
import Derived.Test.YtaelhkkjgfobhaaGreatU0
set_option linter.unusedSectionVars false
set_option linter.unusedVariables false
set_option linter.unusedSimpArgs false
namespace Go.Proofs.YtaelhkkjgfobhaaGreat
open Go.Sl Go.Proofs
theorem De {l:List ag}{o:ag}(h:o∈l){x:DV}(hx:x∈o.ds):x∈l.flatMap ag.ds:=List.mem_flatMap.2 ⟨o,h,hx⟩
theorem Df (o:ag):o.lines∈o.ds:=by simp [ag.ds]
set_option maxRecDepth 100000 in
theorem Dg {d:Nat}{ds:List DV}(h:Fit Tryz.prog (d+6) kQ ds)(hs:eO reachBytes ds):∃ x l,ds=[x]∧l.length≤140737488351232∧(∀ o,o∈l→o.kind<256∧o.nQ∧o.cl.length≤140737488351232∧o.aQ<256∧o.dot.wf)∧
  ∀ (p:Nat→Prop) (μ:Nat→Nm) (M:Mem) (r r':List SV) (hr:∀ vs,aW p μ M r' vs→aW p μ M r vs) (vs:List Value),aW p μ M (.d x::r') vs→aW p μ M (ops l::r) vs:=by
 rcases IS h with rfl | ⟨l,hl,hn,rfl⟩
 ·exact ⟨.aK,[],rfl,by simp,by simp,fun p μ M r r' hr vs hv=>yx hr vs hv⟩
 ·simp only [eO,DV.small,and_true,reachBytes] at hs
  obtain ⟨h1,h2⟩:=hs;rw [tQ] at h2;refine ⟨_,l.map ag.nz,rfl,by simpa using h1,fun o ho=> ?_,fun p μ M r r' hr vs hv=> ?_⟩
  ·obtain ⟨q,hq,rfl⟩:=List.mem_map.1 ho
   have hk:=(hl q hq).nz.1;rcases (hl q hq).lines with e | ⟨cl,e,lg⟩
   ·have:=ag.nQ.of (o:=q.nz) (l:=[]) (by show Go.Sl.nz q.lines=_;rw [e];rfl) (by simp)
    exact ⟨hk.kind,this.1,by rw [this.2];simp,hk.aQ,hk.dot⟩
   ·have hz:=ag.nQ.of (o:=q.nz) (l:=cl) (by show Go.Sl.nz q.lines=_;rw [e];rfl) lg
    have hm:=h2 _ (De hq (Df q));rw [e] at hm;simp only [DV.small] at hm;exact ⟨hk.kind,hz.1,by rw [hz.2];exact hm.1,hk.aQ,hk.dot⟩
  ·have:=G8 hr vs hv
   rw [← D2] at this
   simpa [ops] using this
theorem mD {H:Type}{P:Program}{n:Nat}{us:List TypeId}{gs:List (DataW H)}:∀ {ts:List TypeId} {ds:List (DataW H)},n∈DataW.weightsEach P ts ds→n∈DataW.weightsEach P (ts++us) (ds++gs)
 | [],_,h=>by simp [DataW.weightsEach] at h
 | _::_,[],h=>by simp [DataW.weightsEach] at h
 | t::ts,d::ds,h=>by
  simp only [DataW.weightsEach,List.mem_append,List.cons_append] at h ⊢;exact h.imp id mD
set_option maxRecDepth 100000 in
theorem IW (v:Dt):l6 Tryz.prog pg v.ds= .agg v.cells:=by rw [wK (n:=2) (by kernel_rfl),Dt.lK]
set_option maxRecDepth 100000 in
theorem sy:∀ u0,rU Tryz.prog 7 Tryz.f7.params.toList u0→(∀ ds,ds∈u0→eO reachBytes ds)→SB Tryz.prog 7 (tS Tryz.prog Tryz.f7.params.toList u0) [] 0 0 fun r F=>r=bl true:=by
 intro u0 h hs;have hp: Tryz.f7.params.toList=[kQ,pg]:=by kernel_rfl
 rw [hp] at h ⊢;obtain ⟨x0,x1,rfl,h0,h1⟩:=IV h;obtain ⟨y,l,rfl,hl,ho,hw⟩:=Dg (d:=1) h0 (hs _ (by simp))
 obtain ⟨d1,_,rfl⟩:=lG (d:=5) h1;simp only [tS,IT,IW,IU];exact SB.mono (SB.args (vr l d1 (fun o h=>⟨(ho o h).2.2.2.1,(ho o h).1,(ho o h).2.1,(ho o h).2.2.2.2,(ho o h).2.2.1⟩) (by omega)) rfl (fun p μ M vs hv=>hw p μ M _ _ (fun _ h=>h) vs hv)) fun r F h=>h
open Go.ChangeShapes Go.WideShapes Go.ChangeAt Go.RowKit in
set_option maxRecDepth 100000 in
theorem rG (os:Os)(started:os.Started)(H:Type)(enc:TypeId×Value→H):
  ReturnsInHanded {} Tryz.checked os 7 .any (Rows.finalNothingSpec.pre6 enc Tryz.prog Tryz.f7 Rows.finalNothingRow.domain false) (Rows.finalNothingSpec.post enc Tryz.prog Tryz.f7 false true false false):=by
 refine returnsInHanded_of_change_sized (C:= Tryz.checked) own started (by kernel_rfl) Tryz.func7
  (ChangeSpec.witness6 (enc:=enc) (C:= Tryz.checked) false ⟨#[],#[.slice none 0 0,.agg #[.int .u8 0,.int .u32 0]],[]⟩ 8 (by kernel_rfl) (by kernel_rfl) (by kernel_rfl) (by kernel_rfl)) ?_
 intro W base args ds gs before hval hW hcnd hsz _;refine BU (f:=7) (fn:= Tryz.f7) (spec:=Rows.finalNothingSpec) (tb:=J5) 7 (by kernel_rfl) (by kernel_rfl) rfl (by kernel_rfl) rfl (fun ds hl=> ?_) reachBytes (fun u0 hf hs=> ?_) W base args ds gs before hval hW (AO _) (fun n hn=>by simpa using List.all_eq_true.1 hsz n (mD hn))
 ·rw [show Tryz.f7.params.toList.length=2 from by kernel_rfl] at hl
  match ds,hl with
  | [d0,d1],_=>exact ⟨rfl,rfl,rfl⟩
 ·exact sy u0 hf hs
theorem finalNothing_holds:Rows.FinalNothingSaid:=
 OpenClaim.holds_of_wide 7 Tryz.f7 rfl rfl rfl rfl rfl rfl rfl ⟨rfl,rfl,rfl,rfl,rfl⟩ rfl rfl rfl rfl rfl (by kernel_rfl) Tryz.func7 (by kernel_rfl)
  (of_decide_eq_true (by kernel_rfl)) (by unfold Func.isWrapper;first | (rw [if_pos (by decide +kernel)];kernel_rfl) | (rw [if_neg (by decide +kernel)];exact ⟨rfl,rfl⟩))
  (fun os started H enc _=>rG os started H enc)
end Go.Proofs.YtaelhkkjgfobhaaGreat
