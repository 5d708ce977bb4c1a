/-
 Final: whose verdicts are final.
-/
import Derived.Test.YtaelhkkjgfobhaaGreatTY
set_option linter.unusedSectionVars false
set_option linter.unusedVariables false
set_option linter.unusedSimpArgs false
namespace Go.Proofs.YtaelhkkjgfobhaaGreat
open Go.Sl Go.Proofs
section
attribute [local irreducible] SW RW aF SC ai ak jN tF
noncomputable def bE (l:List ag)(d:Dt):List Dt:=if bJ l d then (bn l).filter (j7 l d) else []
abbrev o9 (l:List ag):List Dt:=Dt.set (l.map (·.dot))
section
variable {l:List ag} {S:Sh} (h:dG l S)
include h
theorem dG.Cq:h.X.j9=bE l:=by
 funext d
 unfold Ix.j9 bE;rw[h.GU,h.tH];cases hg:bJ l d with
 | false=>rfl
 | true=>
  have hg':S.good d=true:=by rw[h.tH];exact hg
  simp only[if_true];exact h.Pn hg'
theorem dG.Pq (d:Dt):h.X.oA d<10:=by
 cases hg:S.good d with
 | true=>
  unfold Ix.oA;rw[h.JJ hg];have:=h.Ck (S.op d);omega
 | false=>unfold Ix.oA;rw[h.K4 hg];decide
theorem dG.K9 (hl:l.length<=80)(d:Dt):(h.X.j9 d).length<1000000000:=by
 unfold Ix.j9
 split
 .exact h.um hl _
 .decide
end
end
section
attribute [local irreducible] SW RW aF SC ai ak jN tF
theorem JQ {l:List ag}{d:Dt}:d∈o9 l↔(aJ l d).isSome=true:=by
 rw[Dt.mem_set,List.mem_map,nY]
theorem rW {l:List ag}{d:Dt}(h:bJ l d=true):d∈o9 l:=by
 rw[JQ];unfold bJ at h;cases hf:aJ l d with
 | none=>rw[hf] at h;cases h
 | some o=>rfl
theorem vL {l:List ag}{d t:Dt}(h:t∈bE l d):bJ l t=true:=by
 unfold bE at h
 split at h
 .exact jh.1 (List.mem_filter.1 h).1
 .cases h
end
section
attribute [local irreducible] SW RW aF SC ai ak
end
section
attribute [local irreducible] SW RW aF SC ai ak jN tF
end
end Go.Proofs.YtaelhkkjgfobhaaGreat
namespace Go.Proofs.YtaelhkkjgfobhaaGreat
open Go.Sl Go.Proofs
section
attribute [local irreducible] SW RW aF SC ai ak jN tF
section
variable {l:List ag} {S:Sh} (h:dG l S) (hl:l.length<=80) (hs:oR S) (st:aB)
end
end
section
attribute [local irreducible] SW RW aF SC ai ak jN tF
end
end Go.Proofs.YtaelhkkjgfobhaaGreat
namespace Go.Proofs.YtaelhkkjgfobhaaGreat
open Go.Sl Go.Proofs
section
attribute [local irreducible] SW RW aF SC ai ak
theorem qb {P:Program}{env:List (Nat×SV)}{hp:Hp}{k d p:Nat}{r:List SI}{K:St->List (Bool×List Nat)->Prop}{a:ag}{z:List SV}(hz:z=Eg)
  (ha:env.lookup p=some (.agg a.cells))
  (h:RW P r ⟨(d,ops [a])::env,hp,k⟩ λ st' ts=>K st' ((false,[])::ts)):RW P (⟨some d,.kK 43 29 1 z [(0,29,.t p)],none⟩::r) ⟨env,hp,k⟩ K:=by
 subst hz;refine RW.cons (e:=⟨ops [a],[],[],0,((29=29/\0+29<=29/\True))⟩) (λ dQ=>⟨.gz::dQ,f_ (.inl rfl) ?_⟩) (by show 29=29/\0+29<=29/\True;decide) ?_
 .have h1:wL (λ t=>env.lookup t) [(0,29,X.t p)]=some [(0,29,.agg a.cells)]:=by
   simp only[wL,ev,ha]
  have h2:mK Eg [(0,29,.agg a.cells)]=some (a.cells,((29=29/\0+29<=29/\True))):=rfl;have h3:e_ a.cells=some ([a].flatMap ag.ds):=rfl;have h4:a.cells.all SV.dR=true:=rfl;simp only[fu,dK,h1,h2,h3,h4,if_true,Bool.false_or];rfl
 .exact h
end
section
attribute [local irreducible] SW RW aF SC ai ak
theorem He (s:List Dt)(x:Dt):(s++[x]).length=s.length+1:=by simp
theorem JR (s:List Dt)(x:Dt):List.map SV.d ((s++[x]).flatMap Dt.ds)=List.map SV.d (s.flatMap Dt.ds)++List.map SV.d x.ds:=by simp
theorem SC.res {P:Program}{f:FuncId}{a:List SV}{F:Hp}{k nk:Nat}{Q Q':SV->Hp->Prop}(h:SC P f a F k nk Q)(hq:∀ r F,Q r F->∃ r',Q' r' F/\∀ p μ M u,Rp p μ M r u->Rp p μ M r' u):SC P f a F k nk Q':=by
 unfold SC at h ⊢;refine⟨h.1,λ p μ M w vals hp hr hS=>(h.2 p μ M w vals hp hr hS).mono ?_⟩;rintro e w' ⟨r,F',bh,M',u,rfl,hQ,hru,hS2,hE⟩;obtain⟨r',h1,h2⟩:=hq r F' hQ;exact⟨r',F',bh,M',u,rfl,h1,h2 _ _ _ _ hru,hS2,hE⟩
section
variable {l:List ag} (hl:l.length<=80) (hd:∀ x,x∈l->x.aT<256/\x.mZ/\x.dot.wf)
include hl hd
theorem xN (d:Dt)(k:Nat):aF Tryz.prog ref18_Threats.f [ops l,.agg d.cells] [] k 0 (.de [bg (bE l d),bl (bJ l d)]) []:=by
 have h:=DF hl hd d k;unfold aF at h ⊢;refine SC.res h ?_;rintro r F ⟨rfl,rfl⟩;refine⟨_,⟨rfl,rfl⟩,λ p μ M u hu=> ?_⟩;unfold tG at hu;unfold bE;cases hg:bJ l d with
 | true=>rw[hg] at hu;exact hu
 | false=>
  rw[hg] at hu;simp only[Bool.false_eq_true,if_false] at hu ⊢;obtain⟨vs,rfl,h1⟩:=Rp.dX.1 hu;obtain⟨u1,us,e1,h2,h3⟩:=aV.aD.1 h1;exact Rp.dX.2 ⟨vs,rfl,e1 ▸ aV.aD.2 ⟨u1,us,rfl,l_ _ _ _ _ h2,h3⟩⟩
end
end
section
attribute [local irreducible] SW RW aF SC ai ak
section
variable {l:List ag} (hl:l.length<=80) (hd:∀ x,x∈l->x.aT<256/\x.mZ/\x.dot.wf)
include hl hd
end
end
section
attribute [local irreducible] SW RW aF SC ai ak
section
variable {l:List ag} (hl:l.length<=80) (hd:∀ x,x∈l->x.aT<256/\x.mZ/\x.dot.wf)
include hl hd
end
end
end Go.Proofs.YtaelhkkjgfobhaaGreat
namespace Go.Proofs.YtaelhkkjgfobhaaGreat
open Go.Sl Go.Proofs
section
def Pr (a b:Nat):aB:=⟨a,b,0,0,0,0,0,0⟩
theorem PM:j4 bp ⟨0,1⟩=p1:=bI (by kernel_rfl)
theorem PN:j4 bp ⟨0,2⟩=p2:=bI (by kernel_rfl)
theorem PO:j4 bp ⟨0,3⟩=p3:=bI (by kernel_rfl)
theorem PR:j4 bp ⟨0,4⟩=p4:=bI (by kernel_rfl)
theorem PS:j4 bp ⟨1,1⟩=p5:=bI (by kernel_rfl)
theorem o_ {l:List ag}{d:Dt}{o:ag}(h:aJ l d=some o)(hw:fB l o=0):bJ l d=true:=by
 unfold bJ;rw[h];simp[hw]
theorem Pt:bJ bp ⟨0,1⟩=true:=o_ (o:=p1) (by kernel_rfl) KV
theorem Pu:bJ bp ⟨0,2⟩=true:=o_ (o:=p2) (by kernel_rfl) KW
theorem Pv:bJ bp ⟨0,3⟩=true:=o_ (o:=p3) (by kernel_rfl) KX
theorem OJ:bJ bp ⟨0,4⟩=true:=o_ (o:=p4) (by kernel_rfl) KY
theorem OK:bJ bp ⟨1,1⟩=true:=o_ (o:=p5) (by kernel_rfl) KZ
theorem Hf:bn bp=[⟨0,1⟩,⟨0,2⟩,⟨0,3⟩,⟨0,4⟩,⟨1,1⟩]:=by
 have e:ow bp=bp.map (·.dot):=by
  unfold ow;rw[List.filter_eq_self.2];intro o ho;simp only[bp,List.mem_cons,List.not_mem_nil,or_false] at ho;rcases ho with rfl|rfl|rfl|rfl|rfl
  .exact Pt
  .exact Pu
  .exact Pv
  .exact OJ
  .exact OK
 unfold bn;rw[e];exact K5
theorem MC:gZ bp p1=[]:=by unfold gZ;rw[if_pos (by decide)]
theorem MD:gZ bp p2=[⟨0,1⟩]:=by unfold gZ;rw[if_neg (by decide)];exact congrArg (List.map (·.dot)) (fI KU)
theorem ME:gZ bp p3=[⟨0,2⟩,⟨0,1⟩]:=by unfold gZ;rw[if_neg (by decide)];exact congrArg (List.map (·.dot)) (fI GR)
theorem MF:gZ bp p4=[⟨0,2⟩,⟨0,1⟩]:=by unfold gZ;rw[if_neg (by decide)];exact congrArg (List.map (·.dot)) (fI GR)
theorem MG:gZ bp p5=[⟨0,1⟩]:=by unfold gZ;rw[if_neg (by decide)];exact congrArg (List.map (·.dot)) (fI KU)
theorem pg {d:Dt}{o:ag}{C:List Dt}(hg:bJ bp d=true)(ho:j4 bp d=o)(hc:gZ bp o=C):bE bp d=if decide ((⟨0,2⟩:Dt)∈C) && !o.before p5 then [⟨1,1⟩] else []:=by
 have k1:decide (p1.kind=2)=false:=rfl;have k2:decide (p2.kind=2)=false:=rfl;have k3:decide (p3.kind=2)=false:=rfl;have k4:decide (p4.kind=2)=false:=rfl;have k5:decide (p5.kind=2)=true:=rfl;have a5:p5.at_=⟨0,2⟩:=rfl;unfold bE;rw[if_pos hg,Hf];simp only[List.filter_cons,List.filter_nil,j7,s6,PM,PN,PO,PR,PS,ho,hc,k1,k2,k3,k4,k5,a5,Bool.false_and,Bool.true_and,if_false,Bool.false_eq_true]
theorem Qe:bE bp ⟨0,1⟩=[]:=(pg Pt PM MC).trans (by decide)
theorem Qf:bE bp ⟨0,2⟩=[]:=(pg Pu PN MD).trans (by decide)
theorem Qg:bE bp ⟨0,3⟩=[]:=(pg Pv PO ME).trans (by decide)
theorem PT:bE bp ⟨0,4⟩=[⟨1,1⟩]:=(pg OJ PR MF).trans (by decide)
theorem PU:bE bp ⟨1,1⟩=[]:=(pg OK PS MG).trans (by decide)
theorem Bt:o9 bp=[⟨0,1⟩,⟨0,2⟩,⟨0,3⟩,⟨0,4⟩,⟨1,1⟩]:=K5
theorem set_nil:Dt.set []=[]:=(Dt.rP _).symm.trans (by kernel_rfl)
theorem JS (d:Dt):Dt.set [d]=[d]:=by
 refine Dt.iy (Dt.iz _) (List.pairwise_singleton _ _) λ v=>by rw[Dt.mem_set]
end
section
attribute [local irreducible] SW RW aF SC ai ak jN tF
end
section
attribute [local irreducible] SW RW aF SC ai ak jN tF
theorem vM:o8 bp:=Al
theorem v4:cq aB.zero.cells 0 [.d (.int .u32 4)]=(wu 4).cells:=rfl
theorem v3:cq aB.zero.cells 0 [.d (.int .u32 3)]=(wu 3).cells:=rfl
theorem e5:cq (Dt.mk 0 0).cells 1 [.d (.int .u32 5)]=(Dt.mk 0 5).cells:=rfl
theorem Ol:cq (cq (Dt.mk 0 0).cells 0 [.d (.int .u8 1)]) 1 [.d (.int .u32 1)]=(Dt.mk 1 1).cells:=rfl
theorem Qh (k:Nat):aF Tryz.prog ref03_Same.f [bg [⟨1,1⟩],.d (.sl 1 (Dt.mk 1 1).ds)] [] k 0 (.d (.bool true)) []:=yh [⟨1,1⟩] [⟨1,1⟩] (by decide) (by decide) k
end
end Go.Proofs.YtaelhkkjgfobhaaGreat
namespace Go.Proofs.YtaelhkkjgfobhaaGreat
open Go.Sl Go.Proofs
section
attribute [local irreducible] SW RW aF SC ai ak
end
section
attribute [local irreducible] SW RW aF SC ai ak
end
section
attribute [local irreducible] SW RW aF SC ai ak
end
end Go.Proofs.YtaelhkkjgfobhaaGreat
namespace Go.Proofs.YtaelhkkjgfobhaaGreat
open Go.Sl Go.Proofs Go.RowKit
attribute [local irreducible] SW RW aF SC ai ak
theorem K_ {l:List Cm}{i:Nat}{x:Cm}(h:l[i]? =some x):List.take 4 (List.drop (i*4) (List.map SV.d (l.flatMap Cm.ds)))=x.line.cells++x.j5.cells:=by
 rw[<- List.map_drop,<- List.map_take,gw Cm.ds 4 (λ _=>rfl) l i x h];rfl
end Go.Proofs.YtaelhkkjgfobhaaGreat
namespace Go.Proofs.YtaelhkkjgfobhaaGreat
open Go.Sl Go.Proofs
section
attribute [local irreducible] SW RW aF SC ai ak
end
section
attribute [local irreducible] SW RW aF SC ai ak
end
section
attribute [local irreducible] SW RW aF SC ai ak
end
end Go.Proofs.YtaelhkkjgfobhaaGreat
namespace Go.Proofs.YtaelhkkjgfobhaaGreat
open Go.Sl Go.Proofs
section
attribute [local irreducible] SW RW aF SC ai ak
end
section
attribute [local irreducible] SW RW aF SC ai ak
end
section
attribute [local irreducible] SW RW aF SC ai ak
end
section
attribute [local irreducible] SW RW aF SC ai ak
end
end Go.Proofs.YtaelhkkjgfobhaaGreat
namespace Go.Proofs.YtaelhkkjgfobhaaGreat
open Go.Sl Go.Proofs
attribute [local irreducible] SW RW aF SC ai ak
end Go.Proofs.YtaelhkkjgfobhaaGreat
namespace Go.Proofs.YtaelhkkjgfobhaaGreat
open Go.Sl Go.Proofs
section
attribute [local irreducible] SW RW aF SC ai ak
end
section
attribute [local irreducible] SW RW aF SC ai ak
end
end Go.Proofs.YtaelhkkjgfobhaaGreat
