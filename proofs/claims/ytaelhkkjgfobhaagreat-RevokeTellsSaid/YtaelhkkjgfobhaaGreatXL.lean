/-
 For every row of operations and each dot the law that levels, revokes, threats are the document's answers true: the statement.
-/
import Derived.Test.YtaelhkkjgfobhaaGreatUH
import Derived.Test.YtaelhkkjgfobhaaGreatRows
import Derived.SizedLaws
import Derived.Test.YtaelhkkjgfobhaaGreatUX
set_option linter.unusedSectionVars false
set_option linter.unusedVariables false
set_option linter.unusedSimpArgs false
namespace Go.Proofs.YtaelhkkjgfobhaaGreat
open Go.Sl Go.Proofs
theorem B0 {l:List ag}{o:ag}(h:o∈l){x:DV}(hx:x∈o.ds):x∈l.flatMap ag.ds:=List.mem_flatMap.2 ⟨o,h,hx⟩
theorem B1 (o:ag):o.lines∈o.ds:=by simp [ag.ds]
set_option maxRecDepth 100000 in
theorem B2 {d:Nat}{ds:List DV}(h:Fit Tryz.prog (d+6) kB ds)(hs:dS reachBytes ds):∃ x l,ds=[x]∧l.length≤140737488351232∧(∀ o,o∈l→o.kind<256∧o.nw∧o.cl.length≤140737488351232∧o.aN<256∧o.dot.wf)∧
  ∀ (p:Nat→Prop) (μ:Nat→Nm) (M:Mem) (r r':List SV) (hr:∀ vs,aS p μ M r' vs→aS p μ M r vs) (vs:List Value),aS p μ M (.d x::r') vs→aS p μ M (ops l::r) vs:=by
 rcases Ht h with rfl | ⟨l,hl,hn,rfl⟩
 ·exact ⟨.aD,[],rfl,by simp,by simp,fun p μ M r r' hr vs hv=>xN hr vs hv⟩
 ·simp only [dS,DV.small,and_true,reachBytes] at hs
  obtain ⟨h1,h2⟩:=hs
  rw [tg] at h2
  refine ⟨_,l.map ag.nz,rfl,by simpa using h1,fun o ho=> ?_,fun p μ M r r' hr vs hv=> ?_⟩
  ·obtain ⟨q,hq,rfl⟩:=List.mem_map.1 ho
   have hk:=(hl q hq).nz.1
   rcases (hl q hq).lines with e | ⟨cl,e,kZ⟩
   ·have:=ag.nw.of (o:=q.nz) (l:=[]) (by show Go.Sl.nz q.lines=_;rw [e];rfl) (by simp)
    exact ⟨hk.kind,this.1,by rw [this.2];simp,hk.aN,hk.dot⟩
   ·have hz:=ag.nw.of (o:=q.nz) (l:=cl) (by show Go.Sl.nz q.lines=_;rw [e];rfl) kZ
    have hm:=h2 _ (B0 hq (B1 q))
    rw [e] at hm
    simp only [DV.small] at hm
    exact ⟨hk.kind,hz.1,by rw [hz.2];exact hm.1,hk.aN,hk.dot⟩
  ·have:=FW hr vs hv
   rw [← CO] at this
   simpa [ops] using this
theorem lV {H:Type}{P:Program}{n:Nat}{us:List TypeId}{gs:List (DataW H)}:∀ {ts:List TypeId} {ds:List (DataW H)},n∈DataW.weightsEach P ts ds→n∈DataW.weightsEach P (ts++us) (ds++gs)
 | [],_,h=>by simp [DataW.weightsEach] at h
 | _::_,[],h=>by simp [DataW.weightsEach] at h
 | t::ts,d::ds,h=>by
  simp only [DataW.weightsEach,List.mem_append,List.cons_append] at h ⊢
  exact h.imp id lV
set_option maxRecDepth 100000 in
theorem Hw (v:Dt):mY Tryz.prog ow v.ds= .agg v.cells:=by rw [BW (n:=2) (by kernel_rfl),Dt.jr]
set_option maxRecDepth 100000 in
theorem sC:∀ uF,qZ Tryz.prog 7 Tryz.f4.params.toList uF→(∀ ds,ds∈uF→dS reachBytes ds)→SB Tryz.prog 4 (tj Tryz.prog Tryz.f4.params.toList uF) [] 0 0 fun r F=>r=bl true:=by
 intro uF h hs
 have hp: Tryz.f4.params.toList=[kB,ow]:=by kernel_rfl
 rw [hp] at h ⊢
 obtain ⟨x0,x1,rfl,h0,h1⟩:=Hv h
 obtain ⟨y,l,rfl,hl,ho,hw⟩:=B2 (d:=1) h0 (hs _ (by simp))
 obtain ⟨d,_,rfl⟩:=kT (d:=5) h1
 simp only [tj,Hu,Hw]
 exact SB.mono (SB.args (yC l d (fun o h=>⟨(ho o h).2.2.2.1,(ho o h).1,(ho o h).2.1,(ho o h).2.2.2.2,(ho o h).2.2.1⟩) (by omega)) rfl (fun p μ M vs hv=>hw p μ M _ _ (fun _ h=>h) vs hv)) fun r F h=>h
open Go.ChangeShapes Go.WideShapes Go.ChangeAt Go.RowKit in
set_option maxRecDepth 100000 in
theorem rS (os:Os)(started:os.Started)(H:Type)(enc:TypeId×Value→H):
  ReturnsInHanded {} Tryz.checked os 4 .any (Rows.revokeTellsSpec.pre6 enc Tryz.prog Tryz.f4 Rows.revokeTellsRow.domain false) (Rows.revokeTellsSpec.post enc Tryz.prog Tryz.f4 false true false false):=by
 refine returnsInHanded_of_change_sized (C:= Tryz.checked) own started (by kernel_rfl) Tryz.func4
  (ChangeSpec.witness6 (enc:=enc) (C:= Tryz.checked) false ⟨#[],#[.slice none 0 0,.agg #[.int .u8 0,.int .u32 0]],[]⟩ 8 (by kernel_rfl) (by kernel_rfl) (by kernel_rfl) (by kernel_rfl)) ?_
 intro W base args ds gs before hval hW hcnd hsz _
 refine A1 (f:=4) (fn:= Tryz.f4) (spec:=Rows.revokeTellsSpec) (tb:=IN) 7 (by kernel_rfl) (by kernel_rfl) rfl (by kernel_rfl) rfl (fun ds hl=> ?_) reachBytes (fun uF hf hs=> ?_) W base args ds gs before hval hW (zP _) (fun n hn=>by simpa using List.all_eq_true.1 hsz n (lV hn))
 ·rw [show Tryz.f4.params.toList.length=2 from by kernel_rfl] at hl
  match ds,hl with
  | [d0,d1],_=>exact ⟨rfl,rfl,rfl⟩
 ·exact sC uF hf hs
theorem revokeTells_holds:Rows.RevokeTellsSaid:=
 OpenClaim.holds_of_wide 4 Tryz.f4 rfl rfl rfl rfl rfl rfl rfl ⟨rfl,rfl,rfl,rfl,rfl⟩ rfl rfl rfl rfl rfl (by kernel_rfl) Tryz.func4 (by kernel_rfl)
  (of_decide_eq_true (by kernel_rfl)) (by unfold Func.isWrapper;first | (rw [if_pos (by decide +kernel)];kernel_rfl) | (rw [if_neg (by decide +kernel)];exact ⟨rfl,rfl⟩))
  (fun os started H enc _=>rS os started H enc)
end Go.Proofs.YtaelhkkjgfobhaaGreat
