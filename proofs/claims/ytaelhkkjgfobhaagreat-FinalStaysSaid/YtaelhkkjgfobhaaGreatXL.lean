/-
 Final: for good: the statement.
-/
import Derived.Test.YtaelhkkjgfobhaaGreatRows
import Derived.SizedLaws
import Derived.Test.YtaelhkkjgfobhaaGreatVE
set_option linter.unusedSectionVars false
set_option linter.unusedVariables false
set_option linter.unusedSimpArgs false
namespace Go.Proofs.YtaelhkkjgfobhaaGreat
open Go.Sl Go.Proofs
theorem DT {l:List ag}{o:ag}(h:o∈l){x:DV}(hx:x∈o.ds):x∈l.flatMap ag.ds:=List.mem_flatMap.2 ⟨o,h,hx⟩
theorem DU (o:ag):o.lines∈o.ds:=by simp [ag.ds]
set_option maxRecDepth 100000 in
theorem DW {d:Nat}{ds:List DV}(h:Fit Tryz.prog (d+6) lD ds)(hs:eO reachBytes ds):∃ x l,ds=[x]/\l.length<=140737488351232/\(∀ o,o∈l->o.kind<256/\o.mW/\o.cl.length<=140737488351232/\o.bp<256/\o.dot.wf)/\
  ∀ (p:Nat->Prop) (μ:Nat->Nm) (M:Mem) (r r':List SV) (hr:∀ vs,aX p μ M r' vs->aX p μ M r vs) (vs:List Value),aX p μ M (.d x::r') vs->aX p μ M (ops l::r) vs:=by
 rcases Jv h with rfl | ⟨l,hl,hn,rfl⟩
 .exact ⟨.aN,[],rfl,by simp,by simp,λ p μ M r r' hr vs hv=>zx hr vs hv⟩
 .simp only [eO,DV.small,and_true,reachBytes] at hs
  obtain ⟨h1,h2⟩:=hs;rw [uM] at h2;refine ⟨_,l.map ag.nz,rfl,by simpa using h1,λ o ho=> ?_,λ p μ M r r' hr vs hv=> ?_⟩
  .obtain ⟨q,hq,rfl⟩:=List.mem_map.1 ho
   have hk:=(hl q hq).nz.1;rcases (hl q hq).lines with e | ⟨cl,e,mO⟩
   .have:=ag.mW.of (o:=q.nz) (l:=[]) (by show Go.Sl.nz q.lines=_;rw [e];rfl) (by simp)
    exact ⟨hk.kind,this.1,by rw [this.2];simp,hk.bp,hk.dot⟩
   .have hz:=ag.mW.of (o:=q.nz) (l:=cl) (by show Go.Sl.nz q.lines=_;rw [e];rfl) mO
    have hm:=h2 _ (DT hq (DU q));rw [e] at hm;simp only [DV.small] at hm;exact ⟨hk.kind,hz.1,by rw [hz.2];exact hm.1,hk.bp,hk.dot⟩
  .have:=Ie hr vs hv
   rw [<- EI] at this
   simpa [ops] using this
theorem nw {H:Type}{P:Program}{n:Nat}{us:List TypeId}{gs:List (DataW H)}:∀ {ts:List TypeId} {ds:List (DataW H)},n∈DataW.weightsEach P ts ds->n∈DataW.weightsEach P (ts++us) (ds++gs)
 | [],_,h=>by simp [DataW.weightsEach] at h
 | _::_,[],h=>by simp [DataW.weightsEach] at h
 | t::ts,d::ds,h=>by
  simp only [DataW.weightsEach,List.mem_append,List.cons_append] at h ⊢;exact h.imp id nw
set_option maxRecDepth 100000 in
theorem LW {d:Nat}{ds:List DV}(h:Fit Tryz.prog (d+3) 72 ds):∃ v w:aD,ds=v.ds++w.ds:=by
 rw [Fit,show Tryz.prog.underlying 72=some (.array 2 kF) from by kernel_rfl] at h;dsimp only at h;obtain ⟨hl,hi⟩:=h;rw [show Tryz.prog.cellsOf 72=16 from by kernel_rfl] at hl;rw [show Tryz.prog.cellsOf kF=8 from by kernel_rfl] at hi;obtain ⟨v,_,e0⟩:=yT (d:=d) (hi 0 (by omega));obtain ⟨w,_,e1⟩:=yT (d:=d) (hi 1 (by omega));refine ⟨v,w,?_⟩;rw [<- e0,<- e1];rw [List.take_of_length_le (l:=List.drop (1*8) ds) (by simp;omega)];simp
theorem LX (v w:aD):lT Tryz.prog 72 (v.ds++w.ds)= .agg (PV v w):=by
 rw [DQ (n:=16) (by kernel_rfl),List.map_append,aD.oB,aD.oB];rfl
theorem Jz (x:DV):lT Tryz.prog 3 [x]= .d x:=Jx x (by kernel_rfl)
set_option maxRecDepth 100000 in
theorem vO:∀ vQ,sF Tryz.prog 7 Tryz.f8.params.toList vQ->(∀ ds,ds∈vQ->eO reachBytes ds)->SB Tryz.prog 8 (uO Tryz.prog Tryz.f8.params.toList vQ) [] 0 0 λ r F=>r=bl true:=by
 intro vQ h hs;have hp: Tryz.f8.params.toList=[lD,MJ,72]:=by kernel_rfl
 rw [hp] at h ⊢;obtain ⟨x0,x1,x2,rfl,h0,h1,h2⟩:=Jy h;obtain ⟨y,l,rfl,hl,ho,hw⟩:=DW (d:=1) h0 (hs _ (by simp));obtain ⟨n,_,rfl⟩:=BU (P:= Tryz.prog) (d:=6) Tryz.underlying3 h1;obtain ⟨v,w,rfl⟩:=LW (d:=4) h2;simp only [uO,Jw,Jz,LX];exact SB.mono (SB.args (Ax l n v w (λ o h=>⟨(ho o h).2.2.2.1,(ho o h).1,(ho o h).2.1,(ho o h).2.2.2.2,(ho o h).2.2.1⟩) (by omega)) rfl (λ p μ M vs hv=>hw p μ M _ _ (λ _ h=>h) vs hv)) λ r F h=>h
open Go.ChangeShapes Go.WideShapes Go.ChangeAt Go.RowKit in
set_option maxRecDepth 100000 in
theorem tU (os:Os)(started:os.Started)(H:Type)(enc:TypeId×Value->H):
  ReturnsInHanded {} Tryz.checked os 8 .any (Rows.finalStaysSpec.pre6 enc Tryz.prog Tryz.f8 Rows.finalStaysRow.domain false) (Rows.finalStaysSpec.post enc Tryz.prog Tryz.f8 false true false false):=by
 refine returnsInHanded_of_change_sized (C:= Tryz.checked) own started (by kernel_rfl) Tryz.func8
  (ChangeSpec.witness6 (enc:=enc) (C:= Tryz.checked) false ⟨#[],#[.slice none 0 0,.int .i64 0,.agg #[.int .u32 0,.int .u32 0,.int .u32 0,.int .u32 0,.int .u32 0,.int .u32 0,.int .u32 0,.int .u32 0,.int .u32 0,.int .u32 0,.int .u32 0,.int .u32 0,.int .u32 0,.int .u32 0,.int .u32 0,.int .u32 0]],[]⟩ 8 (by kernel_rfl) (by kernel_rfl) (by kernel_rfl) (by kernel_rfl)) ?_
 intro W base args ds gs before hval hW hcnd hsz _;refine CE (f:=8) (fn:= Tryz.f8) (spec:=Rows.finalStaysSpec) (tb:=KH) 7 (by kernel_rfl) (by kernel_rfl) rfl (by kernel_rfl) rfl (λ ds hl=> ?_) reachBytes (λ vQ hf hs=> ?_) W base args ds gs before hval hW (BB _) (λ n hn=>by simpa using List.all_eq_true.1 hsz n (nw hn))
 .rw [show Tryz.f8.params.toList.length=3 from by kernel_rfl] at hl
  match ds,hl with
  | [d0,d1,d2],_=>exact ⟨rfl,rfl,rfl⟩
 .exact vO vQ hf hs
theorem finalStays_holds:Rows.FinalStaysSaid:=
 OpenClaim.holds_of_wide 8 Tryz.f8 rfl rfl rfl rfl rfl rfl rfl ⟨rfl,rfl,rfl,rfl,rfl⟩ rfl rfl rfl rfl rfl (by kernel_rfl) Tryz.func8 (by kernel_rfl)
  (of_decide_eq_true (by kernel_rfl)) (by unfold Func.isWrapper;first | (rw [if_pos (by decide +kernel)];kernel_rfl) | (rw [if_neg (by decide +kernel)];exact ⟨rfl,rfl⟩))
  (λ os started H enc _=>tU os started H enc)
end Go.Proofs.YtaelhkkjgfobhaaGreat
