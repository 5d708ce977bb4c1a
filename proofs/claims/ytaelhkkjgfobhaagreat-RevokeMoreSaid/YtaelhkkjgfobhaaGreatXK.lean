/-
 For every row of operations the law that a history has the threats of each of its beginnings answers true: the statement.
-/
import Derived.Test.YtaelhkkjgfobhaaGreatKH
import Derived.Test.YtaelhkkjgfobhaaGreatRows
import Derived.SizedLaws
import Derived.Test.YtaelhkkjgfobhaaGreatKX
set_option linter.unusedSectionVars false
set_option linter.unusedVariables false
set_option linter.unusedSimpArgs false
namespace Go.Proofs.YtaelhkkjgfobhaaGreat
open Go.Sl Go.Proofs
theorem Bs {l:List ag}{o:ag}(h:o∈l){x:DV}(hx:x∈o.ds):x∈l.flatMap ag.ds:=List.mem_flatMap.2 ⟨o,h,hx⟩
theorem Bt (o:ag):o.lines∈o.ds:=by simp [ag.ds]
set_option maxRecDepth 100000 in
theorem Bu {d:Nat}{ds:List DV}(h:Fit Tryz.prog (d+6) jR ds)(hs:dR reachBytes ds):∃ x l,ds=[x]∧l.length≤140737488351232∧(∀ o,o∈l→o.kind<256∧o.ow∧o.cl.length≤140737488351232∧o.bp<256∧o.dot.wf)∧
  ∀ (p:Nat→Prop) (μ:Nat→Nm) (M:Mem) (r r':List SV) (hr:∀ vs,aR p μ M r' vs→aR p μ M r vs) (vs:List Value),aR p μ M (.d x::r') vs→aR p μ M (ops l::r) vs:=by
 rcases Gl h with rfl | ⟨l,hl,hn,rfl⟩
 ·exact ⟨.aU,[],rfl,by simp,by simp,fun p μ M r r' hr vs hv=>xz hr vs hv⟩
 ·simp only [dR,DV.small,and_true,reachBytes] at hs
  obtain ⟨h1,h2⟩:=hs
  rw [sS] at h2
  refine ⟨_,l.map ag.nz,rfl,by simpa using h1,fun o ho=> ?_,fun p μ M r r' hr vs hv=> ?_⟩
  ·obtain ⟨q,hq,rfl⟩:=List.mem_map.1 ho
   have hk:=(hl q hq).nz.1
   rcases (hl q hq).lines with e | ⟨cl,e,lP⟩
   ·have:=ag.ow.of (o:=q.nz) (l:=[]) (by show Go.Sl.nz q.lines=_;rw [e];rfl) (by simp)
    exact ⟨hk.kind,this.1,by rw [this.2];simp,hk.bp,hk.dot⟩
   ·have hz:=ag.ow.of (o:=q.nz) (l:=cl) (by show Go.Sl.nz q.lines=_;rw [e];rfl) lP
    have hm:=h2 _ (Bs hq (Bt q))
    rw [e] at hm
    simp only [DV.small] at hm
    exact ⟨hk.kind,hz.1,by rw [hz.2];exact hm.1,hk.bp,hk.dot⟩
  ·have:=Fg hr vs hv
   rw [← Cd] at this
   simpa [ops] using this
theorem lH {H:Type}{P:Program}{n:Nat}{us:List TypeId}{gs:List (DataW H)}:∀ {ts:List TypeId} {ds:List (DataW H)},n∈DataW.weightsEach P ts ds→n∈DataW.weightsEach P (ts++us) (ds++gs)
 | [],_,h=>by simp [DataW.weightsEach] at h
 | _::_,[],h=>by simp [DataW.weightsEach] at h
 | t::ts,d::ds,h=>by
  simp only [DataW.weightsEach,List.mem_append,List.cons_append] at h ⊢
  exact h.imp id lH
set_option maxRecDepth 100000 in
theorem ua:∀ ud,qz Tryz.prog 7 Tryz.f3.params.toList ud→(∀ ds,ds∈ud→dR reachBytes ds)→SB Tryz.prog 3 (sV Tryz.prog Tryz.f3.params.toList ud) [] 0 0 fun r F=>r=bl true:=by
 intro ud h hs
 have hp: Tryz.f3.params.toList=[jR,GG,zK]:=by kernel_rfl
 rw [hp] at h ⊢
 obtain ⟨x0,x1,x2,rfl,h0,h1,h2⟩:=Gn h
 obtain ⟨y,l,rfl,hl,ho,hw⟩:=Bu (d:=1) h0 (hs _ (by simp))
 obtain ⟨n,_,rfl⟩:=zH (P:= Tryz.prog) (d:=6) Tryz.underlying3 h1
 obtain ⟨q,hq,rfl⟩:=s8 (P:= Tryz.prog) (d:=6) Tryz.underlying5 h2
 simp only [sV,Gm,Al (t:=GG) _ (by kernel_rfl),Al (t:=zK) _ (by kernel_rfl)]
 exact SB.mono (SB.args (zh l n q hq (fun o h=>⟨(ho o h).2.2.2.2,(ho o h).1,(ho o h).2.1⟩) (by omega)) rfl (fun p μ M vs hv=>hw p μ M _ _ (fun _ h=>h) vs hv)) fun r F h=>h
open Go.ChangeShapes Go.WideShapes Go.ChangeAt Go.RowKit in
set_option maxRecDepth 100000 in
theorem rV (os:Os)(started:os.Started)(H:Type)(enc:TypeId×Value→H):
  ReturnsInHanded {} Tryz.checked os 3 .any (Rows.revokeMoreSpec.pre6 enc Tryz.prog Tryz.f3 Rows.revokeMoreRow.domain false) (Rows.revokeMoreSpec.post enc Tryz.prog Tryz.f3 false true false false):=by
 refine returnsInHanded_of_change_sized (C:= Tryz.checked) own started (by kernel_rfl) Tryz.func3
  (ChangeSpec.witness6 (enc:=enc) (C:= Tryz.checked) false ⟨#[],#[.slice none 0 0,.int .i64 0,.int .u8 0],[]⟩ 8 (by kernel_rfl) (by kernel_rfl) (by kernel_rfl) (by kernel_rfl)) ?_
 intro W base args ds gs before hval hW hcnd hsz _
 refine Ar (f:=3) (fn:= Tryz.f3) (spec:=Rows.revokeMoreSpec) (tb:=Hz) 7 (by kernel_rfl) (by kernel_rfl) rfl (by kernel_rfl) rfl (fun ds hl=> ?_) reachBytes (fun ud hf hs=> ?_) W base args ds gs before hval hW (zi _) (fun n hn=>by simpa using List.all_eq_true.1 hsz n (lH hn))
 ·rw [show Tryz.f3.params.toList.length=3 from by kernel_rfl] at hl
  match ds,hl with
  | [d0,d1,d2],_=>exact ⟨rfl,rfl,rfl⟩
 ·exact ua ud hf hs
theorem revokeMore_holds:Rows.RevokeMoreSaid:=
 OpenClaim.holds_of_wide 3 Tryz.f3 rfl rfl rfl rfl rfl rfl rfl ⟨rfl,rfl,rfl,rfl,rfl⟩ rfl rfl rfl rfl rfl (by kernel_rfl) Tryz.func3 (by kernel_rfl)
  (of_decide_eq_true (by kernel_rfl)) (by unfold Func.isWrapper;first | (rw [if_pos (by decide +kernel)];kernel_rfl) | (rw [if_neg (by decide +kernel)];exact ⟨rfl,rfl⟩))
  (fun os started H enc _=>rV os started H enc)
end Go.Proofs.YtaelhkkjgfobhaaGreat
