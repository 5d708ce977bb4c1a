/-
 Final: whose verdicts are final.
-/
import Derived.Test.YtaelhkkjgfobhaaGreatRY
set_option linter.unusedSectionVars false
set_option linter.unusedVariables false
set_option linter.unusedSimpArgs false
namespace Go.Proofs.YtaelhkkjgfobhaaGreat
open Go.Sl Go.Proofs
section
attribute [local irreducible] SW RW aH SC aj ak js sG
noncomputable def dz (l:List ag)(d:Dt):List Dt:=if dD l d then (kC l).filter (wF l d) else []
abbrev qB (l:List ag):List Dt:=Dt.set (l.map (·.dot))
section
variable {l:List ag} {S:Sh} (h:dw l S)
include h
theorem dw.Dy:h.X.kr=dz l:=by
 funext d
 unfold Ix.kr dz;rw[h.HO,h.ue];cases hg:dD l d with
 | false=>rfl
 | true=>
  have hg':S.good d=true:=by rw[h.ue];exact hg
  simp only[if_true];exact h.PT hg'
theorem dw.PW (d:Dt):h.X.oP d<10:=by
 cases hg:S.good d with
 | true=>
  unfold Ix.oP;rw[h.Kb hg];have:=h.Dw (S.op d);omega
 | false=>unfold Ix.oP;rw[h.Lt hg];decide
theorem dw.Ly (hl:l.length<=80)(d:Dt):(h.X.kr d).length<1000000000:=by
 unfold Ix.kr
 split
 .exact h.uU hl _
 .decide
end
end
section
attribute [local irreducible] SW RW aH SC aj ak js sG
noncomputable def A5 (l:List ag)(st:ay)(d:Dt):List Dt:= @List.filter _ (λ e=> @decide (Reach (dz l) d e) (Classical.propDecidable _) && !st.aU e) (qB l)
theorem yw {l:List ag}{st:ay}{d e:Dt}:e∈A5 l st d↔e∈qB l/\Reach (dz l) d e/\st.aU e=false:=by
 unfold A5;rw[List.mem_filter];simp
theorem Kk {l:List ag}{d:Dt}:d∈qB l↔(a_ l d).isSome=true:=by
 rw[Dt.mem_set,List.mem_map,oq]
theorem A6 {l:List ag}{d:Dt}(h:dD l d=true):d∈qB l:=by
 rw[Kk];unfold dD at h;cases hf:a_ l d with
 | none=>rw[hf] at h;cases h
 | some o=>rfl
theorem wK {l:List ag}{d t:Dt}(h:t∈dz l d):dD l t=true:=by
 unfold dz at h
 split at h
 .exact jR.1 (List.mem_filter.1 h).1
 .cases h
end
section
attribute [local irreducible] SW RW aH SC aj ak
end
section
attribute [local irreducible] SW RW aH SC aj ak js sG
end
end Go.Proofs.YtaelhkkjgfobhaaGreat
namespace Go.Proofs.YtaelhkkjgfobhaaGreat
open Go.Sl Go.Proofs
section
attribute [local irreducible] SW RW aH SC aj ak js sG
section
variable {l:List ag} {S:Sh} (h:dw l S) (hl:l.length<=80) (hs:pE S) (st:ay)
end
end
section
attribute [local irreducible] SW RW aH SC aj ak js sG
end
end Go.Proofs.YtaelhkkjgfobhaaGreat
namespace Go.Proofs.YtaelhkkjgfobhaaGreat
open Go.Sl Go.Proofs
section
attribute [local irreducible] SW RW aH SC aj ak
theorem tH:∀ (l:List ag) (i:Nat),(l.flatMap ag.ds).drop (i*29)=(l.drop i).flatMap ag.ds
 | [],i=>by simp
 | x::l,0=>by simp
 | x::l,i+1=>by
  have:=tH l i;rw[List.drop_succ_cons,<- this,List.flatMap_cons,List.drop_append];rw[show(i+1)*29 - x.ds.length=i*29 by rw[show x.ds.length=29 from rfl];omega,List.drop_of_length_le (by rw[show x.ds.length=29 from rfl];omega)];rfl
theorem ED (l:List ag)(i:Nat):(l.flatMap ag.ds).take (i*29)=(l.take i).flatMap ag.ds:=by
 have h1:=List.take_append_drop (i*29) (l.flatMap ag.ds);rw[tH] at h1;have h2:(l.take i).flatMap ag.ds++(l.drop i).flatMap ag.ds=l.flatMap ag.ds:=by rw[<- List.flatMap_append,List.take_append_drop]
 rw[<- h2] at h1 ⊢;exact List.append_cancel_right h1
theorem oQ {P:Program}{env:List (Nat×SV)}{hp:Hp}{k d p:Nat}{r:List SI}{K:St->List (Bool×List Nat)->Prop}{a:ag}{z:List SV}(hz:z=BH)
  (ha:env.lookup p=some (.agg a.cells))
  (h:RW P r ⟨(d,ops [a])::env,hp,k⟩ λ st' ts=>K st' ((false,[])::ts)):RW P (⟨some d,.mK 43 29 1 z [(0,29,.t p)],none⟩::r) ⟨env,hp,k⟩ K:=by
 subst hz;refine RW.cons (e:=⟨ops [a],[],[],0,((29=29/\0+29<=29/\True))⟩) (λ dK=>⟨.iJ::dK,fW (.inl rfl) ?_⟩) (by show 29=29/\0+29<=29/\True;decide) ?_
 .have h1:zK (λ t=>env.lookup t) [(0,29,X.t p)]=some [(0,29,.agg a.cells)]:=by
   simp only[zK,ev,ha]
  have h2:nB BH [(0,29,.agg a.cells)]=some (a.cells,((29=29/\0+29<=29/\True))):=rfl;have h3:fF a.cells=some ([a].flatMap ag.ds):=rfl;have h4:a.cells.all SV.dX=true:=rfl;simp only[fA,dI,h1,h2,h3,h4,if_true,Bool.false_or];rfl
 .exact h
end
section
attribute [local irreducible] SW RW aH SC aj ak
section
variable {l:List ag} (hl:l.length<=80) (hd:∀ x,x∈l->x.bn<256/\x.mC/\x.dot.wf)
include hl hd
end
end
section
attribute [local irreducible] SW RW aH SC aj ak
section
variable {l:List ag} (hl:l.length<=80) (hd:∀ x,x∈l->x.bn<256/\x.mC/\x.dot.wf)
include hl hd
end
end
section
attribute [local irreducible] SW RW aH SC aj ak
section
variable {l:List ag} (hl:l.length<=80) (hd:∀ x,x∈l->x.bn<256/\x.mC/\x.dot.wf)
include hl hd
end
end
end Go.Proofs.YtaelhkkjgfobhaaGreat
namespace Go.Proofs.YtaelhkkjgfobhaaGreat
open Go.Sl Go.Proofs
section
def PX (a b:Nat):ay:=⟨a,b,0,0,0,0,0,0⟩
theorem Qh:uy bp ⟨0,1⟩=p1:=bD (by kernel_rfl)
theorem Qi:uy bp ⟨0,2⟩=p2:=bD (by kernel_rfl)
theorem Qj:uy bp ⟨0,3⟩=p3:=bD (by kernel_rfl)
theorem Qk:uy bp ⟨0,4⟩=p4:=bD (by kernel_rfl)
theorem Ql:uy bp ⟨1,1⟩=p5:=bD (by kernel_rfl)
theorem pI {l:List ag}{d:Dt}{o:ag}(h:a_ l d=some o)(hw:jQ l o=0):dD l d=true:=by
 unfold dD;rw[h];simp[hw]
theorem PY:dD bp ⟨0,1⟩=true:=pI (o:=p1) (by kernel_rfl) Lo
theorem PZ:dD bp ⟨0,2⟩=true:=pI (o:=p2) (by kernel_rfl) Lp
theorem P0:dD bp ⟨0,3⟩=true:=pI (o:=p3) (by kernel_rfl) Lq
theorem Pf:dD bp ⟨0,4⟩=true:=pI (o:=p4) (by kernel_rfl) Lr
theorem Pg:dD bp ⟨1,1⟩=true:=pI (o:=p5) (by kernel_rfl) Ls
theorem HX:kC bp=[⟨0,1⟩,⟨0,2⟩,⟨0,3⟩,⟨0,4⟩,⟨1,1⟩]:=by
 have e:A1 bp=bp.map (·.dot):=by
  unfold A1;rw[List.filter_eq_self.2];intro o ho;simp only[bp,List.mem_cons,List.not_mem_nil,or_false] at ho;rcases ho with rfl|rfl|rfl|rfl|rfl
  .exact PY
  .exact PZ
  .exact P0
  .exact Pf
  .exact Pg
 unfold kC;rw[e];exact Lu
theorem MU:jt bp p1=[]:=by unfold jt;rw[if_pos (by decide)]
theorem MV:jt bp p2=[⟨0,1⟩]:=by unfold jt;rw[if_neg (by decide)];exact congrArg (List.map (·.dot)) (gI Ln)
theorem MW:jt bp p3=[⟨0,2⟩,⟨0,1⟩]:=by unfold jt;rw[if_neg (by decide)];exact congrArg (List.map (·.dot)) (gI HM)
theorem MX:jt bp p4=[⟨0,2⟩,⟨0,1⟩]:=by unfold jt;rw[if_neg (by decide)];exact congrArg (List.map (·.dot)) (gI HM)
theorem MY:jt bp p5=[⟨0,1⟩]:=by unfold jt;rw[if_neg (by decide)];exact congrArg (List.map (·.dot)) (gI Ln)
theorem pJ {d:Dt}{o:ag}{C:List Dt}(hg:dD bp d=true)(ho:uy bp d=o)(hc:jt bp o=C):dz bp d=if decide ((⟨0,2⟩:Dt)∈C) && !o.before p5 then [⟨1,1⟩] else []:=by
 have k1:decide (p1.kind=2)=false:=rfl;have k2:decide (p2.kind=2)=false:=rfl;have k3:decide (p3.kind=2)=false:=rfl;have k4:decide (p4.kind=2)=false:=rfl;have k5:decide (p5.kind=2)=true:=rfl;have a5:p5.at_=⟨0,2⟩:=rfl;unfold dz;rw[if_pos hg,HX];simp only[List.filter_cons,List.filter_nil,wF,zx,Qh,Qi,Qj,Qk,Ql,ho,hc,k1,k2,k3,k4,k5,a5,Bool.false_and,Bool.true_and,if_false,Bool.false_eq_true]
theorem QH:dz bp ⟨0,1⟩=[]:=(pJ PY Qh MU).trans (by decide)
theorem QI:dz bp ⟨0,2⟩=[]:=(pJ PZ Qi MV).trans (by decide)
theorem QJ:dz bp ⟨0,3⟩=[]:=(pJ P0 Qj MW).trans (by decide)
theorem Qm:dz bp ⟨0,4⟩=[⟨1,1⟩]:=(pJ Pf Qk MX).trans (by decide)
theorem Qn:dz bp ⟨1,1⟩=[]:=(pJ Pg Ql MY).trans (by decide)
theorem Cg:qB bp=[⟨0,1⟩,⟨0,2⟩,⟨0,3⟩,⟨0,4⟩,⟨1,1⟩]:=Lu
theorem set_nil:Dt.set []=[]:=(Dt.Dp _).symm.trans (by kernel_rfl)
theorem Kl (d:Dt):Dt.set [d]=[d]:=by
 refine Dt.iz (Dt.iA _) (List.pairwise_singleton _ _) λ v=>by rw[Dt.mem_set]
end
section
attribute [local irreducible] SW RW aH SC aj ak js sG
end
section
attribute [local irreducible] SW RW aH SC aj ak js sG
theorem wL:lN bp:=AZ
theorem v4:b_ ay.zero.cells 0 [.d (.int .u32 4)]=(xk 4).cells:=rfl
theorem v3:b_ ay.zero.cells 0 [.d (.int .u32 3)]=(xk 3).cells:=rfl
theorem e5:b_ (Dt.mk 0 0).cells 1 [.d (.int .u32 5)]=(Dt.mk 0 5).cells:=rfl
theorem OW:b_ (b_ (Dt.mk 0 0).cells 0 [.d (.int .u8 1)]) 1 [.d (.int .u32 1)]=(Dt.mk 1 1).cells:=rfl
theorem QK (k:Nat):aH Tryz.prog ref03_Same.f [bN [⟨1,1⟩],.d (.sl 1 (Dt.mk 1 1).ds)] [] k 0 (.d (.bool true)) []:=C_ [⟨1,1⟩] [⟨1,1⟩] (by decide) (by decide) k
end
end Go.Proofs.YtaelhkkjgfobhaaGreat
namespace Go.Proofs.YtaelhkkjgfobhaaGreat
open Go.Sl Go.Proofs
section
attribute [local irreducible] SW RW aH SC aj ak
theorem P3 {P:Program}{env:List (Nat×SV)}{hp:Hp}{k d:Nat}{r:List SI}{K:St->List (Bool×List Nat)->Prop}{z:List SV}{ps:List (Nat×Nat×X)}
  (hz:z=[.d (.str []),.d (.str []),.d (.str []),.d (.str []),.d (.str []),.d (.str []),.d (.str []),.d (.str []),.d (.str [])])
  (oL:ps=[(0,1,.k (.d (.str []))),(1,1,.k (.d (.str [99,116,114,100,112]))),(2,1,.k (.d (.str [99,97]))),(3,1,.k (.d (.str [99,105,113,101]))),(4,1,.k (.d (.str [99,97,113]))),(5,1,.k (.d (.str [99,97]))),(6,1,.k (.d (.str [99,97,118]))),(7,1,.k (.d (.str [99,97,118]))),(8,1,.k (.d (.str [99,108])))])
  (h:RW P r ⟨(d,.d (.sl 9 (yX.map .str)))::env,hp,k⟩ λ st' ts=>K st' ((false,[])::ts)):RW P (⟨some d,.mK 9 1 9 z ps,none⟩::r) ⟨env,hp,k⟩ K:=by
 subst hz;subst oL;refine RW.cons (e:=⟨.d (.sl 9 (yX.map .str)),[],[],0,_⟩) (λ dK=>⟨.iJ::dK,fW (.inl rfl) rfl⟩) ?_ ?_
 .show 1=1/\0+1<=9/\1=1/\1+1<=9/\1=1/\2+1<=9/\1=1/\3+1<=9/\1=1/\4+1<=9/\1=1/\5+1<=9/\1=1/\6+1<=9/\1=1/\7+1<=9/\1=1/\8+1<=9/\True
  decide
 .exact h
theorem HY (kind:Nat)(OX:kind<256):Go.Sl.Pure Tryz.prog ref05_Has.f [u8 kind] (.d (.str (aZ kind))):=by
 refine ref05_Has.enter (by first|rfl|simp[SV.ok,SV.ax]) (by first|rfl|simp[Hp.ok,Ob.ok,SV.ok,SV.ax,ay.ah]) (by simp) ?_;dsimp only[ref05_Has.s,Co.M,Co.J,Co.F,Co.T,Co.L,Co.V,Co.I,Co.S];refine SW.seq (SW.g0 [0,2,3,9] Zm aa ?_);refine SW.seq ?_
 (refine SW.di [0,2,3,9] Zm ?_;(repeat (first|refine RW.ro aa (h:=?_)|refine RW.skip (h:=?_)|refine RW.op aa (h:=?_)|refine RW.dV aa (h:=?_)|refine RW.br (h:=?_)|refine P3 rfl rfl (h:=?_)));refine RW.nil ⟨by kernel_rfl,ak.mk (h:=?_)⟩)
 by_cases hk:kind<9
 .have h1:decide ((kind:Int)>=9)=false:=by simp;omega
  have e5:(List.map SV.d (yX.map DV.str))[kind]? =some (.d (.str (aZ kind))):=by
   have h9:kind<yX.length:=hk;rw[List.getElem?_map,List.getElem?_map];unfold aZ;rw[List.getElem?_eq_getElem h9];rfl
  have e6:(List.map SV.d (yX.map DV.str)).length=9:=rfl;have e7:(yX.map DV.str).length=9:=rfl;generalize yX.map DV.str=row at e5 e6 e7 ⊢;(repeat (first|refine SW.seq ?_|refine SW.block ?_|refine SW.g0 [0,2,3,9] Zm (Zq h1 (Zq e5 (Zq e6 e7))) ?_|refine SW.skip ?_|refine SW.exit ?_|refine SW.ret ?_|refine SW.ai rfl ?_|refine SW.an rfl ?_));exact End.mk [] (h4:=⟨rfl,rfl⟩)
 .have h1:decide ((kind:Int)>=9)=true:=by simp;omega
  have e:aZ kind=[]:=by
   unfold aZ;rw[List.getElem?_eq_none (by show 9<=kind;omega)];rfl
  rw[e];generalize yX.map DV.str=row;(repeat (first|refine SW.seq ?_|refine SW.block ?_|refine SW.g0 [0,2,3,9] Zm h1 ?_|refine SW.skip ?_|refine SW.exit ?_|refine SW.ret ?_|refine SW.ai rfl ?_|refine SW.an rfl ?_));exact End.mk [] (h4:=⟨rfl,rfl⟩)
theorem j_ (kind:Nat)(OX:kind<256)(k:Nat):aH Tryz.prog ref05_Has.f [u8 kind] [] k 0 (.d (.str (aZ kind))) []:=(HY kind OX).sc rfl k
theorem MZ {s:List Nat}{i x:Nat}(h:s[i]? =some x):s.getD i 0=x:=by simp[h]
theorem Km (s:List Nat)(hs:s.length<4611686018427387904)(c:Nat):Go.Sl.Pure Tryz.prog ref05_in.f [.d (.str s),u8 c] (bl (decide (c∈s))):=by
 refine ref05_in.enter (by first|rfl|simp[SV.ok,SV.ax]) (by first|rfl|simp[Hp.ok,Ob.ok,SV.ok,SV.ax,ay.ah]) (by simp) ?_;dsimp only[ref05_in.s,Co.M,Co.J,Co.F,Co.Z,Co.B,Co.Y,Co.V,Co.S];refine SW.seq (SW.g0 ie Zm aa ?_);refine SW.seq (SW.seq (SW.g0 ie Zm aa ?_));refine SW.block (SW.j6 (α:={i:Nat // i<=s.length/\c∉s.take i}) (λ i=>⟨[(5,i64 i.1),(0,.d (.str s)),(1,u8 c)],[],0⟩) (λ i=>s.length - i.1) ⟨0,by omega,by simp⟩ id aa (round:= ?_));rintro⟨i,hi,hn⟩
 by_cases h:i<s.length
 .have h1:decide ((i:Int)<s.length)=true:=by simp only[decide_eq_true_eq];omega
  obtain⟨x,hx⟩:=aX h;have e2:IntKind.i64.wrap ((i:Int)+1)=((i+1:Nat):Int):=wrap_i64 _ (by omega);have e4:=MZ hx
  by_cases he:x=c
  .have e3:((x:Int) == (c:Int))=true:=by rw[he];simp
   (repeat (first|refine SW.seq ?_|refine SW.block ?_|refine SW.g0 ie Zm (Zq h1 (Zq e2 (Zq e3 e4))) ?_|refine SW.skip ?_|refine SW.exit ?_|refine SW.ret ?_|refine SW.ai rfl ?_|refine SW.an rfl ?_));have hm:c∈s:=by rw[<- he];exact List.mem_of_getElem? hx
   exact End.mk [] (h4:=⟨by simp[fB,hm],rfl⟩)
  .have e3:((x:Int) == (c:Int))=false:=by rw[Bool.eq_false_iff];intro h;have:=beq_iff_eq.mp h;omega
   (repeat (first|refine SW.seq ?_|refine SW.block ?_|refine SW.g0 ie Zm (Zq h1 (Zq e2 (Zq e3 e4))) ?_|refine SW.skip ?_|refine SW.exit ?_|refine SW.ret ?_|refine SW.ai rfl ?_|refine SW.an rfl ?_));dsimp only;exact⟨⟨i+1,by omega,by rw[dY hx];simp[hn];omega⟩,id,by show s.length - (i+1)<_;omega,aG.mk aa⟩
 .have h1:decide ((i:Int)<s.length)=false:=by simp only[decide_eq_false_iff_not];omega
  (repeat (first|refine SW.seq ?_|refine SW.block ?_|refine SW.g0 ie Zm h1 ?_|refine SW.skip ?_|refine SW.exit ?_|refine SW.ret ?_|refine SW.ai rfl ?_|refine SW.an rfl ?_));rw[List.take_of_length_le (by omega)] at hn;exact End.mk [] (h4:=⟨by simp[fB,hn],rfl⟩)
theorem av (s:List Nat)(hs:s.length<4611686018427387904)(c:Nat)(k:Nat):aH Tryz.prog ref05_in.f [.d (.str s),u8 c] [] k 0 (bl (decide (c∈s))) []:=(Km s hs c).sc rfl k
end
section
attribute [local irreducible] SW RW aH SC aj ak
theorem jW (o:ag){r:Nat}(hr:r<8):o.cells[2+r]? =some (.d (.int .u32 (o.dep.get r))):=by
 match r,hr with
 | 0,_|1,_|2,_|3,_|4,_|5,_|6,_|7,_=>rfl
theorem HZ (o:ag)(d:Dt):Go.Sl.Pure Tryz.prog ref05_Covers.f [.agg o.cells,.agg d.cells] (bl (o.dep.aU d)):=by
 refine ref05_Covers.enter (by first|rfl|simp[SV.ok,SV.ax]) (by first|rfl|simp[Hp.ok,Ob.ok,SV.ok,SV.ax,ay.ah]) (by simp) ?_;dsimp only[ref05_Covers.s,Co.M,Co.J,Co.H,Co.F,Co.B,Co.b8,Co.aB,Co.T,Co.x,Co.U,Co.D,Co.S];refine SW.seq (SW.g0 ci Zm aa ?_)
 by_cases hr:d.r<8
 .have h1:decide ((d.r:Int)<8)=true:=by simp;omega
  by_cases hn:1<=d.n
  .have h2:decide ((d.n:Int)>=1)=true:=by simp;omega
   have e:o.dep.aU d=decide (((o.dep.get d.r:Nat):Int)>=((d.n:Nat):Int)):=by
    unfold ay.aU Dt.may;rw[Bool.eq_iff_iff];simp only[Bool.and_eq_true,decide_eq_true_eq];omega
   rw[e];refine SW.seq (SW.g0 ci Zm (Zq h1 (Zq h2 (jW o hr))) ?_);refine SW.ret ?_;exact End.mk [] (h4:=⟨rfl,rfl⟩)
  .have h2:decide ((d.n:Int)>=1)=false:=by simp;omega
   have e:o.dep.aU d=false:=by
    unfold ay.aU Dt.may;rw[Bool.eq_false_iff];simp only[ne_eq,Bool.and_eq_true,decide_eq_true_eq];omega
   rw[e];refine SW.seq (SW.g0 ci Zm (Zq h1 h2) ?_);refine SW.ret ?_;exact End.mk [] (h4:=⟨rfl,rfl⟩)
 .have h1:decide ((d.r:Int)<8)=false:=by simp;omega
  have e:o.dep.aU d=false:=by
   unfold ay.aU Dt.may;rw[Bool.eq_false_iff];simp only[ne_eq,Bool.and_eq_true,decide_eq_true_eq];omega
  rw[e];refine SW.seq (SW.g0 ci Zm h1 ?_);refine SW.ret ?_;exact End.mk [] (h4:=⟨rfl,rfl⟩)
theorem nh (o:ag)(d:Dt)(k:Nat):aH Tryz.prog ref05_Covers.f [.agg o.cells,.agg d.cells] [] k 0 (bl (o.dep.aU d)) []:=(HZ o d).sc rfl k
end
section
attribute [local irreducible] SW RW aH SC aj ak
set_option maxHeartbeats 2000000 in
theorem H6 (l:List ag)(hl:l.length<=9223372036854775807)(d:Dt):Go.Sl.Pure Tryz.prog ref10_there.f [ops l,.agg d.cells] (.d (.int .i64 ((gY l d:Nat):Int))):=by
 refine ref10_there.enter (by first|rfl|simp[SV.ok,SV.ax]) (by first|rfl|simp[Hp.ok,Ob.ok,SV.ok,SV.ax,ay.ah]) (by simp) ?_;dsimp only[ref10_there.s,Co.M,Co.J,Co.F,Co.Z,Co.K,Co.L,Co.x,Co.Y,Co.V,Co.D,Co.I,Co.S];refine SW.seq (SW.g0 ft Zm aa ?_);refine SW.seq (SW.g0 ft Zm aa ?_);refine SW.seq (SW.seq (SW.g0 ft Zm aa ?_));refine SW.block (SW.j6 (α:={i:Nat // i<=l.length}) (λ i=>⟨[(6,i64 i.1),(5,.d (.int .i64 ((gY (l.take i.1) d:Nat):Int))),(0,ops l),(3,.ptr 0 0)],[(0,.box 37 d.cells)],1⟩) (λ i=>l.length - i.1) ⟨0,by omega⟩ id (Zq (show gY [] d=0 from rfl) aa) (round:= ?_));rintro⟨i,hi⟩;dsimp only;have mz:gY (l.take i) d<=i:=Nat.le_trans List.countP_le_length (by simp;omega)
 by_cases h:i<l.length
 .have h1:decide ((i:Int)<l.length)=true:=by simp only[decide_eq_true_eq];omega
  obtain⟨x,hx⟩:=aX h;have e2:IntKind.i64.wrap ((i:Int)+1)=((i+1:Nat):Int):=wrap_i64 _ (by omega);have e1:l.take (i+1)=l.take i++[x]:=dY hx;have hsn:=DX (l.take i) x d;rw[<- e1] at hsn;generalize gY (l.take i) d=n at mz hsn;have e3:IntKind.i64.wrap ((n:Int)+1)=((n+1:Nat):Int):=wrap_i64 _ (by omega)
  by_cases he:x.dot=d
  .have e4:decide (x.dot=d)=true:=by simp[he]
   rw[if_pos he] at hsn;(repeat (first|refine SW.seq ?_|refine SW.block ?_|refine SW.g0 ft Zm (Zq h1 (Zq (p_ hx) (Zq (mW hx) (Zq e2 (Zq e3 e4))))) ?_|refine SW.skip ?_|refine SW.exit ?_|refine SW.ret ?_|refine SW.ai rfl ?_|refine SW.an rfl ?_));dsimp only;exact⟨⟨i+1,by omega⟩,id,by show l.length - (i+1)<_;omega,aG.mk (Zq hsn aa)⟩
  .have e4:decide (x.dot=d)=false:=by simp[he]
   rw[if_neg he] at hsn;(repeat (first|refine SW.seq ?_|refine SW.block ?_|refine SW.g0 ft Zm (Zq h1 (Zq (p_ hx) (Zq (mW hx) (Zq e2 e4)))) ?_|refine SW.skip ?_|refine SW.exit ?_|refine SW.ret ?_|refine SW.ai rfl ?_|refine SW.an rfl ?_));dsimp only;exact⟨⟨i+1,by omega⟩,id,by show l.length - (i+1)<_;omega,aG.mk (Zq hsn aa)⟩
 .have h1:decide ((i:Int)<l.length)=false:=by simp only[decide_eq_false_iff_not];omega
  have h2:i=l.length:=by omega
  subst h2;rw[List.take_length];(repeat (first|refine SW.seq ?_|refine SW.block ?_|refine SW.g0 ft Zm h1 ?_|refine SW.skip ?_|refine SW.exit ?_|refine SW.ret ?_|refine SW.ai rfl ?_|refine SW.an rfl ?_));exact End.mk [] (h4:=⟨rfl,rfl⟩)
theorem sx (l:List ag)(hl:l.length<=9223372036854775807)(d:Dt)(k:Nat):aH Tryz.prog ref10_there.f [ops l,.agg d.cells] [] k 0 (.d (.int .i64 ((gY l d:Nat):Int))) []:=(H6 l hl d).sc rfl k
end
end Go.Proofs.YtaelhkkjgfobhaaGreat
namespace Go.Proofs.YtaelhkkjgfobhaaGreat
open Go.Sl Go.Proofs Go.RowKit
attribute [local irreducible] SW RW aH SC aj ak
theorem Lz {l:List Cm}{i:Nat}{x:Cm}(h:l[i]? =some x):List.take 4 (List.drop (i*4) (List.map SV.d (l.flatMap Cm.ds)))=x.line.cells++x.jA.cells:=by
 rw[<- List.map_drop,<- List.map_take,jG Cm.ds 4 (λ _=>rfl) l i x h];rfl
theorem oz {l:List Cm}{i:Nat}{x:Cm}(h:l[i]? =some x):(i*4+2<=(List.map SV.d (l.flatMap Cm.ds)).length)=True:=eq_true (by
 have:=cU h;rw[List.length_map,yW];omega)
theorem A7 {l:List Cm}{i:Nat}{x:Cm}(h:l[i]? =some x):(i*4+2+2<=(List.map SV.d (l.flatMap Cm.ds)).length)=True:=eq_true (by
 have:=cU h;rw[List.length_map,yW];omega)
theorem tI {o:ag}{cl:List Cm}{i:Nat}{x:Cm}(hx:cl[i]? =some x)(h:Mb o x (cl.take i)=false):kf o cl=false:=by
 unfold kf;rw[Bool.and_eq_false_iff];refine .inr ?_;rw[List.all_eq_false];refine⟨i,List.mem_range.2 (cU hx),?_⟩;unfold Jq;rw[hx];simp[h]
set_option maxHeartbeats 4000000 in
theorem Ch (o:ag)(cl:List Cm)(hlen:cl.length<=9223372036854775807)(hl:o.lines= .sl cl.length (cl.flatMap Cm.ds)):Go.Sl.Pure Tryz.prog ref05_lines.f [.agg o.cells] (bl (kf o cl)):=by
  refine ref05_lines.enter (by first|rfl|simp[SV.ok,SV.ax]) (by first|rfl|simp[Hp.ok,Ob.ok,SV.ok,SV.ax,ay.ah]) (by simp) ?_;dsimp only[ref05_lines.s,Co.M,Co.G,Co.J,Co.H,Co.F,Co.C,Co.Z,Co.B,Co.T,Co.K,Co.L,Co.Q,Co.x,Co.Y,Co.V,Co.O,Co.D,Co.I,Co.S];refine SW.seq (SW.g0 cj Zm aa ?_)
  by_cases h1:cl.length<1
  . have e1:decide ((cl.length:Int)<1)=true:=by simp;omega
    have evl:kf o cl=false:=by unfold kf;rw[decide_eq_false (by omega)];rfl
    rw[evl];refine SW.seq (SW.seq (SW.g0 cj Zm (Zq hl e1) ?_));refine SW.ai rfl (SW.seq (SW.g0 cj Zm aa ?_));refine SW.ret ?_;exact End.mk [] (h4:=⟨rfl,rfl⟩)
  have e1:decide ((cl.length:Int)<1)=false:=by simp;omega
  by_cases h2:16<cl.length
  . have e2:decide ((cl.length:Int)>16)=true:=by simp;omega
    have evl:kf o cl=false:=by unfold kf;rw[decide_eq_false (by omega)];rfl
    rw[evl];refine SW.seq (SW.seq (SW.g0 cj Zm (Zq hl (Zq e1 e2)) ?_));refine SW.ai rfl (SW.seq (SW.g0 cj Zm aa ?_));refine SW.ret ?_;exact End.mk [] (h4:=⟨rfl,rfl⟩)
  have e2:decide ((cl.length:Int)>16)=false:=by simp;omega
  refine SW.seq (SW.seq (SW.g0 cj Zm (Zq hl (Zq e1 e2)) ?_));refine SW.an rfl (SW.skip (SW.seq (SW.seq (SW.g0 cj Zm aa ?_))));refine SW.block (SW.j6 (α:={i:Nat // i<=cl.length/\∀ j,j<i->Jq o cl j=true}) (λ i=>⟨[(3,i64 i.1),(1,.ptr 0 0)],[(0,.box 43 o.cells)],1⟩) (λ i=>cl.length - i.1) ⟨0,by omega,by omega⟩ id aa (round:= ?_));rintro⟨i,hi,hs⟩
  by_cases h:i<cl.length
  . obtain⟨x,hx⟩:=aX h
    have f1:decide ((i:Int)<cl.length)=true:=by simp;exact h
    have f2:IntKind.i64.wrap ((i:Int)+1)=((i+1:Nat):Int):=wrap_i64 _ (by omega);refine SW.seq (SW.seq (SW.g0 cj Zm (Zq hl f1) ?_));refine SW.ai rfl (SW.skip (SW.seq (SW.block (SW.seq (SW.seq ?_)))));have c1:=nh o x.line;have c2:=nh o x.jA;rcases g1:o.dep.aU x.line with _|_
    . rw[tI hx (by unfold Mb;rw[g1];rfl)]
      rw[g1] at c1;refine SW.g1 cj Zm (Zq hl (Zq (mc hx) (oz hx))) c1 ?_;refine SW.ai rfl ?_;(repeat (first|refine SW.seq ?_|refine SW.block ?_|refine SW.g1 cj Zm aa c1 ?_|refine SW.skip ?_|refine SW.exit ?_|refine SW.ret ?_|refine SW.ai rfl ?_|refine SW.an rfl ?_));exact End.mk [] (h4:=⟨rfl,rfl⟩)
    rcases g2:o.dep.aU x.jA with _|_
    . rw[tI hx (by unfold Mb;rw[g1,g2];rfl)]
      rw[g1] at c1;rw[g2] at c2;refine SW.g2 cj Zm (Zq hl (Zq (mc hx) (Zq (oz hx) (Zq (B8 hx) (A7 hx))))) c1 c2 ?_;refine SW.ai rfl ?_;(repeat (first|refine SW.seq ?_|refine SW.block ?_|refine SW.g2 cj Zm aa c1 c2 ?_|refine SW.skip ?_|refine SW.exit ?_|refine SW.ret ?_|refine SW.ai rfl ?_|refine SW.an rfl ?_));exact End.mk [] (h4:=⟨rfl,rfl⟩)
    rw[g1] at c1;rw[g2] at c2;refine SW.g2 cj Zm (Zq hl (Zq (mc hx) (Zq (oz hx) (Zq (B8 hx) (A7 hx))))) c1 c2 ?_;refine SW.an rfl (SW.skip (SW.seq (SW.g0 cj Zm aa ?_)));refine SW.block (SW.j6 (α:={k:Nat // k<=i/\∀ j y,j<k->cl[j]? =some y->y.line≠x.line}) (λ k=>⟨[(4,i64 k.1),(3,i64 i),(1,.ptr 0 0)],[(0,.box 43 o.cells)],1⟩) (λ k=>i - k.1) ⟨0,by omega,by omega⟩ id aa (round:= ?_));rintro⟨k,hk,hks⟩
    by_cases hki:k<i
    . obtain⟨y,hy⟩:=aX (show k<cl.length by omega)
      have k1:decide ((k:Int)<i)=true:=by simp;exact hki
      have k2:IntKind.i64.wrap ((k:Int)+1)=((k+1:Nat):Int):=wrap_i64 _ (by omega);refine SW.seq (SW.seq (SW.g0 cj Zm k1 ?_));refine SW.ai rfl (SW.skip (SW.seq (SW.block (SW.seq ?_))))
      by_cases hd:y.line=x.line
      . have k3:decide (y.line=x.line)=true:=decide_eq_true hd
        have hbad:Mb o x (cl.take i)=false:=by
          unfold Mb;rw[g1,g2,Bool.true_and,Bool.true_and,List.all_eq_false];exact⟨y,List.mem_of_getElem? (by rw[List.getElem?_take_of_lt hki];exact hy),by simp[hd]⟩
        rw[tI hx hbad];refine SW.g0 cj Zm (Zq hl (Zq (mc hx) (Zq (oz hx) (Zq (mc hy) (Zq (oz hy) (k3)))))) ?_;refine SW.ai rfl ?_;(repeat (first|refine SW.seq ?_|refine SW.block ?_|refine SW.g0 cj Zm aa ?_|refine SW.skip ?_|refine SW.exit ?_|refine SW.ret ?_|refine SW.ai rfl ?_|refine SW.an rfl ?_));exact End.mk [] (h4:=⟨rfl,rfl⟩)
      . have k3:decide (y.line=x.line)=false:=decide_eq_false hd
        refine SW.g0 cj Zm (Zq hl (Zq (mc hx) (Zq (oz hx) (Zq (mc hy) (Zq (oz hy) (k3)))))) ?_;refine SW.an rfl (SW.skip ?_);refine SW.g0 cj Zm k2 ?_;dsimp only;exact⟨⟨k+1,by omega,λ j z hj hz=>by
          rcases Nat.lt_or_ge j k with hjk|hjk
          . exact hks j z hjk hz
          . have:j=k:=by omega
            subst this;rw[hy] at hz;injection hz with hz;subst hz;exact hd⟩,id,by show i - (k+1)<_;omega,aG.mk aa⟩
    . have k1:decide ((k:Int)<i)=false:=by simp;omega
      (repeat (first|refine SW.seq ?_|refine SW.block ?_|refine SW.g0 cj Zm (Zq k1 f2) ?_|refine SW.skip ?_|refine SW.exit ?_|refine SW.ret ?_|refine SW.ai rfl ?_|refine SW.an rfl ?_));dsimp only;refine⟨⟨i+1,by omega,λ j hj=> ?_⟩,id,by show cl.length - (i+1)<_;omega,aG.mk aa⟩;rcases Nat.lt_or_ge j i with hji|hji
      . exact hs j hji
      . have:j=i:=by omega
        subst this;unfold Jq;rw[hx];dsimp only;unfold Mb;rw[g1,g2,Bool.true_and,Bool.true_and,List.all_eq_true];intro y hy;obtain⟨q,hq⟩:=List.mem_iff_getElem?.1 hy;have hqj:q<j:=by
          have:=cU hq;rw[List.length_take] at this;omega
        rw[List.getElem?_take_of_lt hqj] at hq;have:=hks q y (by omega) hq;simp[this]
  . have f1:decide ((i:Int)<cl.length)=false:=by simp;omega
    have evl:kf o cl=true:=by
      unfold kf;rw[decide_eq_true (by omega),Bool.true_and,List.all_eq_true];intro j hj;exact hs j (by have:=List.mem_range.1 hj;omega)
    rw[evl];(repeat (first|refine SW.seq ?_|refine SW.block ?_|refine SW.g0 cj Zm (Zq hl f1) ?_|refine SW.skip ?_|refine SW.exit ?_|refine SW.ret ?_|refine SW.ai rfl ?_|refine SW.an rfl ?_));exact End.mk [] (h4:=⟨rfl,rfl⟩)
theorem Ci (o:ag)(cl:List Cm)(hlen:cl.length<=9223372036854775807)(hl:o.lines= .sl cl.length (cl.flatMap Cm.ds))(k:Nat):aH Tryz.prog ref05_lines.f [.agg o.cells] [] k 0 (bl (kf o cl)) []:=(Ch o cl hlen hl).sc rfl k
end Go.Proofs.YtaelhkkjgfobhaaGreat
namespace Go.Proofs.YtaelhkkjgfobhaaGreat
open Go.Sl Go.Proofs
section
attribute [local irreducible] SW RW aH SC aj ak
set_option maxHeartbeats 4000000 in
theorem M3 (o:ag)(nl:Nat)(cs:List DV)(hl:o.lines= .sl nl cs)(hk:o.kind<256)(hS:aZ o.kind=[]):Go.Sl.Pure Tryz.prog ref05_zero.f [.agg o.cells] (bl (zeroV [] o nl)):=by
 have hh:=j_ o.kind hk;rw[hS] at hh;have f0:decide (99∈([]:List Nat))=false:=by decide
 have i0:=av [] (by decide) 99;rw[f0] at i0;have f1:decide (116∈([]:List Nat))=false:=by decide
 have i1:=av [] (by decide) 116;rw[f1] at i1;have f2:decide (114∈([]:List Nat))=false:=by decide
 have i2:=av [] (by decide) 114;rw[f2] at i2;have f3:decide (100∈([]:List Nat))=false:=by decide
 have i3:=av [] (by decide) 100;rw[f3] at i3;have f4:decide (112∈([]:List Nat))=false:=by decide
 have i4:=av [] (by decide) 112;rw[f4] at i4;have f5:decide (97∈([]:List Nat))=false:=by decide
 have i5:=av [] (by decide) 97;rw[f5] at i5;have f6:decide (118∈([]:List Nat))=false:=by decide
 have i6:=av [] (by decide) 118;rw[f6] at i6;have f7:decide (105∈([]:List Nat))=false:=by decide
 have i7:=av [] (by decide) 105;rw[f7] at i7;have f8:decide (113∈([]:List Nat))=false:=by decide
 have i8:=av [] (by decide) 113;rw[f8] at i8;have f9:decide (101∈([]:List Nat))=false:=by decide
 have i9:=av [] (by decide) 101;rw[f9] at i9;have f10:decide (108∈([]:List Nat))=false:=by decide
 have i10:=av [] (by decide) 108;rw[f10] at i10;refine ref05_zero.enter (by first|rfl|simp[SV.ok,SV.ax]) (by first|rfl|simp[Hp.ok,Ob.ok,SV.ok,SV.ax,ay.ah]) (by simp) ?_;dsimp only[ref05_zero.s,Co.M,Co.G,Co.J,Co.H,Co.F,Co.C,Co.Z,Co.B,Co.b8,Co.aB,Co.bE,Co.T,Co.P,Co.x,Co.W,Co.U,Co.D,Co.S];have cz:=Zq hh True.intro;refine SW.seq (SW.g1 ci Zm aa hh ?_);refine SW.seq (SW.g1 ci Zm aa hh ?_);refine SW.seq (SW.g1 ci Zm aa hh ?_);refine SW.seq ?_;have cz:=Zq i0 (Zq i1 (Zq i2 (Zq i3 (Zq i4 (Zq i5 (Zq i6 (Zq i7 (Zq i8 (Zq i9 (Zq i10 True.intro))))))))));refine SW.gB ci Zm hl cz ?_;rcases z0:decide (o.aP=(⟨0,0⟩:Dt)) with _|_
 .refine RW.gE hl cz ?_
  refine SW.ret ?_;exact End.mk [] (h4:=⟨by simp only[zeroV,f0,f1,f2,f3,f4,f5,f6,f7,f8,f9,f10,z0,Bool.true_or,Bool.or_true,Bool.false_or,Bool.and_false,Bool.false_and,Bool.true_and,Bool.and_true,Bool.or_false];rfl,rfl⟩)
 refine RW.gG hl cz ?_;rcases z1:((o.to:Int) == 0) with _|_
 .refine RW.gE hl cz ?_
  refine SW.ret ?_;exact End.mk [] (h4:=⟨by simp only[zeroV,f0,f1,f2,f3,f4,f5,f6,f7,f8,f9,f10,z0,z1,Bool.true_or,Bool.or_true,Bool.false_or,Bool.and_false,Bool.false_and,Bool.true_and,Bool.and_true,Bool.or_false];rfl,rfl⟩)
 refine RW.gG hl cz ?_;rcases z2:((o.bn:Int) == 0) with _|_
 .refine RW.gE hl cz ?_
  refine SW.ret ?_;exact End.mk [] (h4:=⟨by simp only[zeroV,f0,f1,f2,f3,f4,f5,f6,f7,f8,f9,f10,z0,z1,z2,Bool.true_or,Bool.or_true,Bool.false_or,Bool.and_false,Bool.false_and,Bool.true_and,Bool.and_true,Bool.or_false];rfl,rfl⟩)
 refine RW.gG hl cz ?_;rcases z3:((o.depth:Int) == 0) with _|_
 .refine RW.gE hl cz ?_
  refine SW.ret ?_;exact End.mk [] (h4:=⟨by simp only[zeroV,f0,f1,f2,f3,f4,f5,f6,f7,f8,f9,f10,z0,z1,z2,z3,Bool.true_or,Bool.or_true,Bool.false_or,Bool.and_false,Bool.false_and,Bool.true_and,Bool.and_true,Bool.or_false];rfl,rfl⟩)
 refine RW.gG hl cz ?_;rcases z4:((o.cap:Int) == 0) with _|_
 .refine RW.gE hl cz ?_
  refine SW.ret ?_;exact End.mk [] (h4:=⟨by simp only[zeroV,f0,f1,f2,f3,f4,f5,f6,f7,f8,f9,f10,z0,z1,z2,z3,z4,Bool.true_or,Bool.or_true,Bool.false_or,Bool.and_false,Bool.false_and,Bool.true_and,Bool.and_true,Bool.or_false];rfl,rfl⟩)
 refine RW.gG hl cz ?_;rcases z5:decide (o.at_=(⟨0,0⟩:Dt)) with _|_
 .refine RW.gE hl cz ?_
  refine SW.ret ?_;exact End.mk [] (h4:=⟨by simp only[zeroV,f0,f1,f2,f3,f4,f5,f6,f7,f8,f9,f10,z0,z1,z2,z3,z4,z5,Bool.true_or,Bool.or_true,Bool.false_or,Bool.and_false,Bool.false_and,Bool.true_and,Bool.and_true,Bool.or_false];rfl,rfl⟩)
 refine RW.gG hl cz ?_;rcases z6:decide (o.jA=(⟨0,0⟩:Dt)) with _|_
 .refine RW.gE hl cz ?_
  refine SW.ret ?_;exact End.mk [] (h4:=⟨by simp only[zeroV,f0,f1,f2,f3,f4,f5,f6,f7,f8,f9,f10,z0,z1,z2,z3,z4,z5,z6,Bool.true_or,Bool.or_true,Bool.false_or,Bool.and_false,Bool.false_and,Bool.true_and,Bool.and_true,Bool.or_false];rfl,rfl⟩)
 refine RW.gG hl cz ?_;rcases z7:((o.item:Int) == 0) with _|_
 .refine RW.gE hl cz ?_
  refine SW.ret ?_;exact End.mk [] (h4:=⟨by simp only[zeroV,f0,f1,f2,f3,f4,f5,f6,f7,f8,f9,f10,z0,z1,z2,z3,z4,z5,z6,z7,Bool.true_or,Bool.or_true,Bool.false_or,Bool.and_false,Bool.false_and,Bool.true_and,Bool.and_true,Bool.or_false];rfl,rfl⟩)
 refine RW.gG hl cz ?_;rcases z8:((o.uu:Int) == 0) with _|_
 .refine RW.gE hl cz ?_
  refine SW.ret ?_;exact End.mk [] (h4:=⟨by simp only[zeroV,f0,f1,f2,f3,f4,f5,f6,f7,f8,f9,f10,z0,z1,z2,z3,z4,z5,z6,z7,z8,Bool.true_or,Bool.or_true,Bool.false_or,Bool.and_false,Bool.false_and,Bool.true_and,Bool.and_true,Bool.or_false];rfl,rfl⟩)
 refine RW.gG hl cz ?_;rcases z9:((o.ff:Int) == 0) with _|_
 .refine RW.gE hl cz ?_
  refine SW.ret ?_;exact End.mk [] (h4:=⟨by simp only[zeroV,f0,f1,f2,f3,f4,f5,f6,f7,f8,f9,f10,z0,z1,z2,z3,z4,z5,z6,z7,z8,z9,Bool.true_or,Bool.or_true,Bool.false_or,Bool.and_false,Bool.false_and,Bool.true_and,Bool.and_true,Bool.or_false];rfl,rfl⟩)
 refine RW.gG hl cz ?_;rcases z10:((nl:Int) == 0) with _|_
 .refine RW.gE hl cz ?_
  refine SW.ret ?_;exact End.mk [] (h4:=⟨by simp only[zeroV,f0,f1,f2,f3,f4,f5,f6,f7,f8,f9,f10,z0,z1,z2,z3,z4,z5,z6,z7,z8,z9,z10,Bool.true_or,Bool.or_true,Bool.false_or,Bool.and_false,Bool.false_and,Bool.true_and,Bool.and_true,Bool.or_false];rfl,rfl⟩)
 refine RW.gE hl cz ?_;refine SW.ret ?_;exact End.mk [] (h4:=⟨by simp only[zeroV,f0,f1,f2,f3,f4,f5,f6,f7,f8,f9,f10,z0,z1,z2,z3,z4,z5,z6,z7,z8,z9,z10,Bool.true_or,Bool.or_true,Bool.false_or,Bool.and_self,Bool.true_and,Bool.and_true];rfl,rfl⟩)
end
section
attribute [local irreducible] SW RW aH SC aj ak
set_option maxHeartbeats 4000000 in
theorem M4 (o:ag)(nl:Nat)(cs:List DV)(hl:o.lines= .sl nl cs)(hk:o.kind<256)(hS:aZ o.kind=[99,116,114,100,112]):Go.Sl.Pure Tryz.prog ref05_zero.f [.agg o.cells] (bl (zeroV [99,116,114,100,112] o nl)):=by
 have hh:=j_ o.kind hk;rw[hS] at hh;have f0:decide (99∈([99,116,114,100,112]:List Nat))=true:=by decide
 have i0:=av [99,116,114,100,112] (by decide) 99;rw[f0] at i0;have f1:decide (116∈([99,116,114,100,112]:List Nat))=true:=by decide
 have i1:=av [99,116,114,100,112] (by decide) 116;rw[f1] at i1;have f2:decide (114∈([99,116,114,100,112]:List Nat))=true:=by decide
 have i2:=av [99,116,114,100,112] (by decide) 114;rw[f2] at i2;have f3:decide (100∈([99,116,114,100,112]:List Nat))=true:=by decide
 have i3:=av [99,116,114,100,112] (by decide) 100;rw[f3] at i3;have f4:decide (112∈([99,116,114,100,112]:List Nat))=true:=by decide
 have i4:=av [99,116,114,100,112] (by decide) 112;rw[f4] at i4;have f5:decide (97∈([99,116,114,100,112]:List Nat))=false:=by decide
 have i5:=av [99,116,114,100,112] (by decide) 97;rw[f5] at i5;have f6:decide (118∈([99,116,114,100,112]:List Nat))=false:=by decide
 have i6:=av [99,116,114,100,112] (by decide) 118;rw[f6] at i6;have f7:decide (105∈([99,116,114,100,112]:List Nat))=false:=by decide
 have i7:=av [99,116,114,100,112] (by decide) 105;rw[f7] at i7;have f8:decide (113∈([99,116,114,100,112]:List Nat))=false:=by decide
 have i8:=av [99,116,114,100,112] (by decide) 113;rw[f8] at i8;have f9:decide (101∈([99,116,114,100,112]:List Nat))=false:=by decide
 have i9:=av [99,116,114,100,112] (by decide) 101;rw[f9] at i9;have f10:decide (108∈([99,116,114,100,112]:List Nat))=false:=by decide
 have i10:=av [99,116,114,100,112] (by decide) 108;rw[f10] at i10;refine ref05_zero.enter (by first|rfl|simp[SV.ok,SV.ax]) (by first|rfl|simp[Hp.ok,Ob.ok,SV.ok,SV.ax,ay.ah]) (by simp) ?_;dsimp only[ref05_zero.s,Co.M,Co.G,Co.J,Co.H,Co.F,Co.C,Co.Z,Co.B,Co.b8,Co.aB,Co.bE,Co.T,Co.P,Co.x,Co.W,Co.U,Co.D,Co.S];have cz:=Zq hh True.intro;refine SW.seq (SW.g1 ci Zm aa hh ?_);refine SW.seq (SW.g1 ci Zm aa hh ?_);refine SW.seq (SW.g1 ci Zm aa hh ?_);refine SW.seq ?_;have cz:=Zq i0 (Zq i1 (Zq i2 (Zq i3 (Zq i4 (Zq i5 (Zq i6 (Zq i7 (Zq i8 (Zq i9 (Zq i10 True.intro))))))))));refine SW.gB ci Zm hl cz ?_;rcases z5:decide (o.at_=(⟨0,0⟩:Dt)) with _|_
 .refine RW.gE hl cz ?_
  refine SW.ret ?_;exact End.mk [] (h4:=⟨by simp only[zeroV,f0,f1,f2,f3,f4,f5,f6,f7,f8,f9,f10,z5,Bool.true_or,Bool.or_true,Bool.false_or,Bool.and_false,Bool.false_and,Bool.true_and,Bool.and_true,Bool.or_false];rfl,rfl⟩)
 refine RW.gG hl cz ?_;rcases z6:decide (o.jA=(⟨0,0⟩:Dt)) with _|_
 .refine RW.gE hl cz ?_
  refine SW.ret ?_;exact End.mk [] (h4:=⟨by simp only[zeroV,f0,f1,f2,f3,f4,f5,f6,f7,f8,f9,f10,z5,z6,Bool.true_or,Bool.or_true,Bool.false_or,Bool.and_false,Bool.false_and,Bool.true_and,Bool.and_true,Bool.or_false];rfl,rfl⟩)
 refine RW.gG hl cz ?_;rcases z7:((o.item:Int) == 0) with _|_
 .refine RW.gE hl cz ?_
  refine SW.ret ?_;exact End.mk [] (h4:=⟨by simp only[zeroV,f0,f1,f2,f3,f4,f5,f6,f7,f8,f9,f10,z5,z6,z7,Bool.true_or,Bool.or_true,Bool.false_or,Bool.and_false,Bool.false_and,Bool.true_and,Bool.and_true,Bool.or_false];rfl,rfl⟩)
 refine RW.gG hl cz ?_;rcases z8:((o.uu:Int) == 0) with _|_
 .refine RW.gE hl cz ?_
  refine SW.ret ?_;exact End.mk [] (h4:=⟨by simp only[zeroV,f0,f1,f2,f3,f4,f5,f6,f7,f8,f9,f10,z5,z6,z7,z8,Bool.true_or,Bool.or_true,Bool.false_or,Bool.and_false,Bool.false_and,Bool.true_and,Bool.and_true,Bool.or_false];rfl,rfl⟩)
 refine RW.gG hl cz ?_;rcases z9:((o.ff:Int) == 0) with _|_
 .refine RW.gE hl cz ?_
  refine SW.ret ?_;exact End.mk [] (h4:=⟨by simp only[zeroV,f0,f1,f2,f3,f4,f5,f6,f7,f8,f9,f10,z5,z6,z7,z8,z9,Bool.true_or,Bool.or_true,Bool.false_or,Bool.and_false,Bool.false_and,Bool.true_and,Bool.and_true,Bool.or_false];rfl,rfl⟩)
 refine RW.gG hl cz ?_;rcases z10:((nl:Int) == 0) with _|_
 .refine RW.gE hl cz ?_
  refine SW.ret ?_;exact End.mk [] (h4:=⟨by simp only[zeroV,f0,f1,f2,f3,f4,f5,f6,f7,f8,f9,f10,z5,z6,z7,z8,z9,z10,Bool.true_or,Bool.or_true,Bool.false_or,Bool.and_false,Bool.false_and,Bool.true_and,Bool.and_true,Bool.or_false];rfl,rfl⟩)
 refine RW.gE hl cz ?_;refine SW.ret ?_;exact End.mk [] (h4:=⟨by simp only[zeroV,f0,f1,f2,f3,f4,f5,f6,f7,f8,f9,f10,z5,z6,z7,z8,z9,z10,Bool.true_or,Bool.or_true,Bool.false_or,Bool.and_self,Bool.true_and,Bool.and_true];rfl,rfl⟩)
end
section
attribute [local irreducible] SW RW aH SC aj ak
set_option maxHeartbeats 4000000 in
theorem H8 (o:ag)(nl:Nat)(cs:List DV)(hl:o.lines= .sl nl cs)(hk:o.kind<256)(hS:aZ o.kind=[99,97]):Go.Sl.Pure Tryz.prog ref05_zero.f [.agg o.cells] (bl (zeroV [99,97] o nl)):=by
 have hh:=j_ o.kind hk;rw[hS] at hh;have f0:decide (99∈([99,97]:List Nat))=true:=by decide
 have i0:=av [99,97] (by decide) 99;rw[f0] at i0;have f1:decide (116∈([99,97]:List Nat))=false:=by decide
 have i1:=av [99,97] (by decide) 116;rw[f1] at i1;have f2:decide (114∈([99,97]:List Nat))=false:=by decide
 have i2:=av [99,97] (by decide) 114;rw[f2] at i2;have f3:decide (100∈([99,97]:List Nat))=false:=by decide
 have i3:=av [99,97] (by decide) 100;rw[f3] at i3;have f4:decide (112∈([99,97]:List Nat))=false:=by decide
 have i4:=av [99,97] (by decide) 112;rw[f4] at i4;have f5:decide (97∈([99,97]:List Nat))=true:=by decide
 have i5:=av [99,97] (by decide) 97;rw[f5] at i5;have f6:decide (118∈([99,97]:List Nat))=false:=by decide
 have i6:=av [99,97] (by decide) 118;rw[f6] at i6;have f7:decide (105∈([99,97]:List Nat))=false:=by decide
 have i7:=av [99,97] (by decide) 105;rw[f7] at i7;have f8:decide (113∈([99,97]:List Nat))=false:=by decide
 have i8:=av [99,97] (by decide) 113;rw[f8] at i8;have f9:decide (101∈([99,97]:List Nat))=false:=by decide
 have i9:=av [99,97] (by decide) 101;rw[f9] at i9;have f10:decide (108∈([99,97]:List Nat))=false:=by decide
 have i10:=av [99,97] (by decide) 108;rw[f10] at i10;refine ref05_zero.enter (by first|rfl|simp[SV.ok,SV.ax]) (by first|rfl|simp[Hp.ok,Ob.ok,SV.ok,SV.ax,ay.ah]) (by simp) ?_;dsimp only[ref05_zero.s,Co.M,Co.G,Co.J,Co.H,Co.F,Co.C,Co.Z,Co.B,Co.b8,Co.aB,Co.bE,Co.T,Co.P,Co.x,Co.W,Co.U,Co.D,Co.S];have cz:=Zq hh True.intro;refine SW.seq (SW.g1 ci Zm aa hh ?_);refine SW.seq (SW.g1 ci Zm aa hh ?_);refine SW.seq (SW.g1 ci Zm aa hh ?_);refine SW.seq ?_;have cz:=Zq i0 (Zq i1 (Zq i2 (Zq i3 (Zq i4 (Zq i5 (Zq i6 (Zq i7 (Zq i8 (Zq i9 (Zq i10 True.intro))))))))));refine SW.gB ci Zm hl cz ?_;rcases z1:((o.to:Int) == 0) with _|_
 .refine RW.gE hl cz ?_
  refine SW.ret ?_;exact End.mk [] (h4:=⟨by simp only[zeroV,f0,f1,f2,f3,f4,f5,f6,f7,f8,f9,f10,z1,Bool.true_or,Bool.or_true,Bool.false_or,Bool.and_false,Bool.false_and,Bool.true_and,Bool.and_true,Bool.or_false];rfl,rfl⟩)
 refine RW.gG hl cz ?_;rcases z2:((o.bn:Int) == 0) with _|_
 .refine RW.gE hl cz ?_
  refine SW.ret ?_;exact End.mk [] (h4:=⟨by simp only[zeroV,f0,f1,f2,f3,f4,f5,f6,f7,f8,f9,f10,z1,z2,Bool.true_or,Bool.or_true,Bool.false_or,Bool.and_false,Bool.false_and,Bool.true_and,Bool.and_true,Bool.or_false];rfl,rfl⟩)
 refine RW.gG hl cz ?_;rcases z3:((o.depth:Int) == 0) with _|_
 .refine RW.gE hl cz ?_
  refine SW.ret ?_;exact End.mk [] (h4:=⟨by simp only[zeroV,f0,f1,f2,f3,f4,f5,f6,f7,f8,f9,f10,z1,z2,z3,Bool.true_or,Bool.or_true,Bool.false_or,Bool.and_false,Bool.false_and,Bool.true_and,Bool.and_true,Bool.or_false];rfl,rfl⟩)
 refine RW.gG hl cz ?_;rcases z4:((o.cap:Int) == 0) with _|_
 .refine RW.gE hl cz ?_
  refine SW.ret ?_;exact End.mk [] (h4:=⟨by simp only[zeroV,f0,f1,f2,f3,f4,f5,f6,f7,f8,f9,f10,z1,z2,z3,z4,Bool.true_or,Bool.or_true,Bool.false_or,Bool.and_false,Bool.false_and,Bool.true_and,Bool.and_true,Bool.or_false];rfl,rfl⟩)
 refine RW.gG hl cz ?_;rcases z6:decide (o.jA=(⟨0,0⟩:Dt)) with _|_
 .refine RW.gE hl cz ?_
  refine SW.ret ?_;exact End.mk [] (h4:=⟨by simp only[zeroV,f0,f1,f2,f3,f4,f5,f6,f7,f8,f9,f10,z1,z2,z3,z4,z6,Bool.true_or,Bool.or_true,Bool.false_or,Bool.and_false,Bool.false_and,Bool.true_and,Bool.and_true,Bool.or_false];rfl,rfl⟩)
 refine RW.gG hl cz ?_;rcases z7:((o.item:Int) == 0) with _|_
 .refine RW.gE hl cz ?_
  refine SW.ret ?_;exact End.mk [] (h4:=⟨by simp only[zeroV,f0,f1,f2,f3,f4,f5,f6,f7,f8,f9,f10,z1,z2,z3,z4,z6,z7,Bool.true_or,Bool.or_true,Bool.false_or,Bool.and_false,Bool.false_and,Bool.true_and,Bool.and_true,Bool.or_false];rfl,rfl⟩)
 refine RW.gG hl cz ?_;rcases z8:((o.uu:Int) == 0) with _|_
 .refine RW.gE hl cz ?_
  refine SW.ret ?_;exact End.mk [] (h4:=⟨by simp only[zeroV,f0,f1,f2,f3,f4,f5,f6,f7,f8,f9,f10,z1,z2,z3,z4,z6,z7,z8,Bool.true_or,Bool.or_true,Bool.false_or,Bool.and_false,Bool.false_and,Bool.true_and,Bool.and_true,Bool.or_false];rfl,rfl⟩)
 refine RW.gG hl cz ?_;rcases z9:((o.ff:Int) == 0) with _|_
 .refine RW.gE hl cz ?_
  refine SW.ret ?_;exact End.mk [] (h4:=⟨by simp only[zeroV,f0,f1,f2,f3,f4,f5,f6,f7,f8,f9,f10,z1,z2,z3,z4,z6,z7,z8,z9,Bool.true_or,Bool.or_true,Bool.false_or,Bool.and_false,Bool.false_and,Bool.true_and,Bool.and_true,Bool.or_false];rfl,rfl⟩)
 refine RW.gG hl cz ?_;rcases z10:((nl:Int) == 0) with _|_
 .refine RW.gE hl cz ?_
  refine SW.ret ?_;exact End.mk [] (h4:=⟨by simp only[zeroV,f0,f1,f2,f3,f4,f5,f6,f7,f8,f9,f10,z1,z2,z3,z4,z6,z7,z8,z9,z10,Bool.true_or,Bool.or_true,Bool.false_or,Bool.and_false,Bool.false_and,Bool.true_and,Bool.and_true,Bool.or_false];rfl,rfl⟩)
 refine RW.gE hl cz ?_;refine SW.ret ?_;exact End.mk [] (h4:=⟨by simp only[zeroV,f0,f1,f2,f3,f4,f5,f6,f7,f8,f9,f10,z1,z2,z3,z4,z6,z7,z8,z9,z10,Bool.true_or,Bool.or_true,Bool.false_or,Bool.and_self,Bool.true_and,Bool.and_true];rfl,rfl⟩)
end
end Go.Proofs.YtaelhkkjgfobhaaGreat
namespace Go.Proofs.YtaelhkkjgfobhaaGreat
open Go.Sl Go.Proofs
section
attribute [local irreducible] SW RW aH SC aj ak
set_option maxHeartbeats 4000000 in
theorem M5 (o:ag)(nl:Nat)(cs:List DV)(hl:o.lines= .sl nl cs)(hk:o.kind<256)(hS:aZ o.kind=[99,105,113,101]):Go.Sl.Pure Tryz.prog ref05_zero.f [.agg o.cells] (bl (zeroV [99,105,113,101] o nl)):=by
 have hh:=j_ o.kind hk;rw[hS] at hh;have f0:decide (99∈([99,105,113,101]:List Nat))=true:=by decide
 have i0:=av [99,105,113,101] (by decide) 99;rw[f0] at i0;have f1:decide (116∈([99,105,113,101]:List Nat))=false:=by decide
 have i1:=av [99,105,113,101] (by decide) 116;rw[f1] at i1;have f2:decide (114∈([99,105,113,101]:List Nat))=false:=by decide
 have i2:=av [99,105,113,101] (by decide) 114;rw[f2] at i2;have f3:decide (100∈([99,105,113,101]:List Nat))=false:=by decide
 have i3:=av [99,105,113,101] (by decide) 100;rw[f3] at i3;have f4:decide (112∈([99,105,113,101]:List Nat))=false:=by decide
 have i4:=av [99,105,113,101] (by decide) 112;rw[f4] at i4;have f5:decide (97∈([99,105,113,101]:List Nat))=false:=by decide
 have i5:=av [99,105,113,101] (by decide) 97;rw[f5] at i5;have f6:decide (118∈([99,105,113,101]:List Nat))=false:=by decide
 have i6:=av [99,105,113,101] (by decide) 118;rw[f6] at i6;have f7:decide (105∈([99,105,113,101]:List Nat))=true:=by decide
 have i7:=av [99,105,113,101] (by decide) 105;rw[f7] at i7;have f8:decide (113∈([99,105,113,101]:List Nat))=true:=by decide
 have i8:=av [99,105,113,101] (by decide) 113;rw[f8] at i8;have f9:decide (101∈([99,105,113,101]:List Nat))=true:=by decide
 have i9:=av [99,105,113,101] (by decide) 101;rw[f9] at i9;have f10:decide (108∈([99,105,113,101]:List Nat))=false:=by decide
 have i10:=av [99,105,113,101] (by decide) 108;rw[f10] at i10;refine ref05_zero.enter (by first|rfl|simp[SV.ok,SV.ax]) (by first|rfl|simp[Hp.ok,Ob.ok,SV.ok,SV.ax,ay.ah]) (by simp) ?_;dsimp only[ref05_zero.s,Co.M,Co.G,Co.J,Co.H,Co.F,Co.C,Co.Z,Co.B,Co.b8,Co.aB,Co.bE,Co.T,Co.P,Co.x,Co.W,Co.U,Co.D,Co.S];have cz:=Zq hh True.intro;refine SW.seq (SW.g1 ci Zm aa hh ?_);refine SW.seq (SW.g1 ci Zm aa hh ?_);refine SW.seq (SW.g1 ci Zm aa hh ?_);refine SW.seq ?_;have cz:=Zq i0 (Zq i1 (Zq i2 (Zq i3 (Zq i4 (Zq i5 (Zq i6 (Zq i7 (Zq i8 (Zq i9 (Zq i10 True.intro))))))))));refine SW.gB ci Zm hl cz ?_;rcases z1:((o.to:Int) == 0) with _|_
 .refine RW.gE hl cz ?_
  refine SW.ret ?_;exact End.mk [] (h4:=⟨by simp only[zeroV,f0,f1,f2,f3,f4,f5,f6,f7,f8,f9,f10,z1,Bool.true_or,Bool.or_true,Bool.false_or,Bool.and_false,Bool.false_and,Bool.true_and,Bool.and_true,Bool.or_false];rfl,rfl⟩)
 refine RW.gG hl cz ?_;rcases z2:((o.bn:Int) == 0) with _|_
 .refine RW.gE hl cz ?_
  refine SW.ret ?_;exact End.mk [] (h4:=⟨by simp only[zeroV,f0,f1,f2,f3,f4,f5,f6,f7,f8,f9,f10,z1,z2,Bool.true_or,Bool.or_true,Bool.false_or,Bool.and_false,Bool.false_and,Bool.true_and,Bool.and_true,Bool.or_false];rfl,rfl⟩)
 refine RW.gG hl cz ?_;rcases z3:((o.depth:Int) == 0) with _|_
 .refine RW.gE hl cz ?_
  refine SW.ret ?_;exact End.mk [] (h4:=⟨by simp only[zeroV,f0,f1,f2,f3,f4,f5,f6,f7,f8,f9,f10,z1,z2,z3,Bool.true_or,Bool.or_true,Bool.false_or,Bool.and_false,Bool.false_and,Bool.true_and,Bool.and_true,Bool.or_false];rfl,rfl⟩)
 refine RW.gG hl cz ?_;rcases z4:((o.cap:Int) == 0) with _|_
 .refine RW.gE hl cz ?_
  refine SW.ret ?_;exact End.mk [] (h4:=⟨by simp only[zeroV,f0,f1,f2,f3,f4,f5,f6,f7,f8,f9,f10,z1,z2,z3,z4,Bool.true_or,Bool.or_true,Bool.false_or,Bool.and_false,Bool.false_and,Bool.true_and,Bool.and_true,Bool.or_false];rfl,rfl⟩)
 refine RW.gG hl cz ?_;rcases z5:decide (o.at_=(⟨0,0⟩:Dt)) with _|_
 .refine RW.gE hl cz ?_
  refine SW.ret ?_;exact End.mk [] (h4:=⟨by simp only[zeroV,f0,f1,f2,f3,f4,f5,f6,f7,f8,f9,f10,z1,z2,z3,z4,z5,Bool.true_or,Bool.or_true,Bool.false_or,Bool.and_false,Bool.false_and,Bool.true_and,Bool.and_true,Bool.or_false];rfl,rfl⟩)
 refine RW.gG hl cz ?_;rcases z6:decide (o.jA=(⟨0,0⟩:Dt)) with _|_
 .refine RW.gE hl cz ?_
  refine SW.ret ?_;exact End.mk [] (h4:=⟨by simp only[zeroV,f0,f1,f2,f3,f4,f5,f6,f7,f8,f9,f10,z1,z2,z3,z4,z5,z6,Bool.true_or,Bool.or_true,Bool.false_or,Bool.and_false,Bool.false_and,Bool.true_and,Bool.and_true,Bool.or_false];rfl,rfl⟩)
 refine RW.gG hl cz ?_;rcases z10:((nl:Int) == 0) with _|_
 .refine RW.gE hl cz ?_
  refine SW.ret ?_;exact End.mk [] (h4:=⟨by simp only[zeroV,f0,f1,f2,f3,f4,f5,f6,f7,f8,f9,f10,z1,z2,z3,z4,z5,z6,z10,Bool.true_or,Bool.or_true,Bool.false_or,Bool.and_false,Bool.false_and,Bool.true_and,Bool.and_true,Bool.or_false];rfl,rfl⟩)
 refine RW.gE hl cz ?_;refine SW.ret ?_;exact End.mk [] (h4:=⟨by simp only[zeroV,f0,f1,f2,f3,f4,f5,f6,f7,f8,f9,f10,z1,z2,z3,z4,z5,z6,z10,Bool.true_or,Bool.or_true,Bool.false_or,Bool.and_self,Bool.true_and,Bool.and_true];rfl,rfl⟩)
end
section
attribute [local irreducible] SW RW aH SC aj ak
set_option maxHeartbeats 4000000 in
theorem M6 (o:ag)(nl:Nat)(cs:List DV)(hl:o.lines= .sl nl cs)(hk:o.kind<256)(hS:aZ o.kind=[99,97,113]):Go.Sl.Pure Tryz.prog ref05_zero.f [.agg o.cells] (bl (zeroV [99,97,113] o nl)):=by
 have hh:=j_ o.kind hk;rw[hS] at hh;have f0:decide (99∈([99,97,113]:List Nat))=true:=by decide
 have i0:=av [99,97,113] (by decide) 99;rw[f0] at i0;have f1:decide (116∈([99,97,113]:List Nat))=false:=by decide
 have i1:=av [99,97,113] (by decide) 116;rw[f1] at i1;have f2:decide (114∈([99,97,113]:List Nat))=false:=by decide
 have i2:=av [99,97,113] (by decide) 114;rw[f2] at i2;have f3:decide (100∈([99,97,113]:List Nat))=false:=by decide
 have i3:=av [99,97,113] (by decide) 100;rw[f3] at i3;have f4:decide (112∈([99,97,113]:List Nat))=false:=by decide
 have i4:=av [99,97,113] (by decide) 112;rw[f4] at i4;have f5:decide (97∈([99,97,113]:List Nat))=true:=by decide
 have i5:=av [99,97,113] (by decide) 97;rw[f5] at i5;have f6:decide (118∈([99,97,113]:List Nat))=false:=by decide
 have i6:=av [99,97,113] (by decide) 118;rw[f6] at i6;have f7:decide (105∈([99,97,113]:List Nat))=false:=by decide
 have i7:=av [99,97,113] (by decide) 105;rw[f7] at i7;have f8:decide (113∈([99,97,113]:List Nat))=true:=by decide
 have i8:=av [99,97,113] (by decide) 113;rw[f8] at i8;have f9:decide (101∈([99,97,113]:List Nat))=false:=by decide
 have i9:=av [99,97,113] (by decide) 101;rw[f9] at i9;have f10:decide (108∈([99,97,113]:List Nat))=false:=by decide
 have i10:=av [99,97,113] (by decide) 108;rw[f10] at i10;refine ref05_zero.enter (by first|rfl|simp[SV.ok,SV.ax]) (by first|rfl|simp[Hp.ok,Ob.ok,SV.ok,SV.ax,ay.ah]) (by simp) ?_;dsimp only[ref05_zero.s,Co.M,Co.G,Co.J,Co.H,Co.F,Co.C,Co.Z,Co.B,Co.b8,Co.aB,Co.bE,Co.T,Co.P,Co.x,Co.W,Co.U,Co.D,Co.S];have cz:=Zq hh True.intro;refine SW.seq (SW.g1 ci Zm aa hh ?_);refine SW.seq (SW.g1 ci Zm aa hh ?_);refine SW.seq (SW.g1 ci Zm aa hh ?_);refine SW.seq ?_;have cz:=Zq i0 (Zq i1 (Zq i2 (Zq i3 (Zq i4 (Zq i5 (Zq i6 (Zq i7 (Zq i8 (Zq i9 (Zq i10 True.intro))))))))));refine SW.gB ci Zm hl cz ?_;rcases z1:((o.to:Int) == 0) with _|_
 .refine RW.gE hl cz ?_
  refine SW.ret ?_;exact End.mk [] (h4:=⟨by simp only[zeroV,f0,f1,f2,f3,f4,f5,f6,f7,f8,f9,f10,z1,Bool.true_or,Bool.or_true,Bool.false_or,Bool.and_false,Bool.false_and,Bool.true_and,Bool.and_true,Bool.or_false];rfl,rfl⟩)
 refine RW.gG hl cz ?_;rcases z2:((o.bn:Int) == 0) with _|_
 .refine RW.gE hl cz ?_
  refine SW.ret ?_;exact End.mk [] (h4:=⟨by simp only[zeroV,f0,f1,f2,f3,f4,f5,f6,f7,f8,f9,f10,z1,z2,Bool.true_or,Bool.or_true,Bool.false_or,Bool.and_false,Bool.false_and,Bool.true_and,Bool.and_true,Bool.or_false];rfl,rfl⟩)
 refine RW.gG hl cz ?_;rcases z3:((o.depth:Int) == 0) with _|_
 .refine RW.gE hl cz ?_
  refine SW.ret ?_;exact End.mk [] (h4:=⟨by simp only[zeroV,f0,f1,f2,f3,f4,f5,f6,f7,f8,f9,f10,z1,z2,z3,Bool.true_or,Bool.or_true,Bool.false_or,Bool.and_false,Bool.false_and,Bool.true_and,Bool.and_true,Bool.or_false];rfl,rfl⟩)
 refine RW.gG hl cz ?_;rcases z4:((o.cap:Int) == 0) with _|_
 .refine RW.gE hl cz ?_
  refine SW.ret ?_;exact End.mk [] (h4:=⟨by simp only[zeroV,f0,f1,f2,f3,f4,f5,f6,f7,f8,f9,f10,z1,z2,z3,z4,Bool.true_or,Bool.or_true,Bool.false_or,Bool.and_false,Bool.false_and,Bool.true_and,Bool.and_true,Bool.or_false];rfl,rfl⟩)
 refine RW.gG hl cz ?_;rcases z6:decide (o.jA=(⟨0,0⟩:Dt)) with _|_
 .refine RW.gE hl cz ?_
  refine SW.ret ?_;exact End.mk [] (h4:=⟨by simp only[zeroV,f0,f1,f2,f3,f4,f5,f6,f7,f8,f9,f10,z1,z2,z3,z4,z6,Bool.true_or,Bool.or_true,Bool.false_or,Bool.and_false,Bool.false_and,Bool.true_and,Bool.and_true,Bool.or_false];rfl,rfl⟩)
 refine RW.gG hl cz ?_;rcases z7:((o.item:Int) == 0) with _|_
 .refine RW.gE hl cz ?_
  refine SW.ret ?_;exact End.mk [] (h4:=⟨by simp only[zeroV,f0,f1,f2,f3,f4,f5,f6,f7,f8,f9,f10,z1,z2,z3,z4,z6,z7,Bool.true_or,Bool.or_true,Bool.false_or,Bool.and_false,Bool.false_and,Bool.true_and,Bool.and_true,Bool.or_false];rfl,rfl⟩)
 refine RW.gG hl cz ?_;rcases z9:((o.ff:Int) == 0) with _|_
 .refine RW.gE hl cz ?_
  refine SW.ret ?_;exact End.mk [] (h4:=⟨by simp only[zeroV,f0,f1,f2,f3,f4,f5,f6,f7,f8,f9,f10,z1,z2,z3,z4,z6,z7,z9,Bool.true_or,Bool.or_true,Bool.false_or,Bool.and_false,Bool.false_and,Bool.true_and,Bool.and_true,Bool.or_false];rfl,rfl⟩)
 refine RW.gG hl cz ?_;rcases z10:((nl:Int) == 0) with _|_
 .refine RW.gE hl cz ?_
  refine SW.ret ?_;exact End.mk [] (h4:=⟨by simp only[zeroV,f0,f1,f2,f3,f4,f5,f6,f7,f8,f9,f10,z1,z2,z3,z4,z6,z7,z9,z10,Bool.true_or,Bool.or_true,Bool.false_or,Bool.and_false,Bool.false_and,Bool.true_and,Bool.and_true,Bool.or_false];rfl,rfl⟩)
 refine RW.gE hl cz ?_;refine SW.ret ?_;exact End.mk [] (h4:=⟨by simp only[zeroV,f0,f1,f2,f3,f4,f5,f6,f7,f8,f9,f10,z1,z2,z3,z4,z6,z7,z9,z10,Bool.true_or,Bool.or_true,Bool.false_or,Bool.and_self,Bool.true_and,Bool.and_true];rfl,rfl⟩)
end
section
attribute [local irreducible] SW RW aH SC aj ak
set_option maxHeartbeats 4000000 in
theorem H9 (o:ag)(nl:Nat)(cs:List DV)(hl:o.lines= .sl nl cs)(hk:o.kind<256)(hS:aZ o.kind=[99,97,118]):Go.Sl.Pure Tryz.prog ref05_zero.f [.agg o.cells] (bl (zeroV [99,97,118] o nl)):=by
 have hh:=j_ o.kind hk;rw[hS] at hh;have f0:decide (99∈([99,97,118]:List Nat))=true:=by decide
 have i0:=av [99,97,118] (by decide) 99;rw[f0] at i0;have f1:decide (116∈([99,97,118]:List Nat))=false:=by decide
 have i1:=av [99,97,118] (by decide) 116;rw[f1] at i1;have f2:decide (114∈([99,97,118]:List Nat))=false:=by decide
 have i2:=av [99,97,118] (by decide) 114;rw[f2] at i2;have f3:decide (100∈([99,97,118]:List Nat))=false:=by decide
 have i3:=av [99,97,118] (by decide) 100;rw[f3] at i3;have f4:decide (112∈([99,97,118]:List Nat))=false:=by decide
 have i4:=av [99,97,118] (by decide) 112;rw[f4] at i4;have f5:decide (97∈([99,97,118]:List Nat))=true:=by decide
 have i5:=av [99,97,118] (by decide) 97;rw[f5] at i5;have f6:decide (118∈([99,97,118]:List Nat))=true:=by decide
 have i6:=av [99,97,118] (by decide) 118;rw[f6] at i6;have f7:decide (105∈([99,97,118]:List Nat))=false:=by decide
 have i7:=av [99,97,118] (by decide) 105;rw[f7] at i7;have f8:decide (113∈([99,97,118]:List Nat))=false:=by decide
 have i8:=av [99,97,118] (by decide) 113;rw[f8] at i8;have f9:decide (101∈([99,97,118]:List Nat))=false:=by decide
 have i9:=av [99,97,118] (by decide) 101;rw[f9] at i9;have f10:decide (108∈([99,97,118]:List Nat))=false:=by decide
 have i10:=av [99,97,118] (by decide) 108;rw[f10] at i10;refine ref05_zero.enter (by first|rfl|simp[SV.ok,SV.ax]) (by first|rfl|simp[Hp.ok,Ob.ok,SV.ok,SV.ax,ay.ah]) (by simp) ?_;dsimp only[ref05_zero.s,Co.M,Co.G,Co.J,Co.H,Co.F,Co.C,Co.Z,Co.B,Co.b8,Co.aB,Co.bE,Co.T,Co.P,Co.x,Co.W,Co.U,Co.D,Co.S];have cz:=Zq hh True.intro;refine SW.seq (SW.g1 ci Zm aa hh ?_);refine SW.seq (SW.g1 ci Zm aa hh ?_);refine SW.seq (SW.g1 ci Zm aa hh ?_);refine SW.seq ?_;have cz:=Zq i0 (Zq i1 (Zq i2 (Zq i3 (Zq i4 (Zq i5 (Zq i6 (Zq i7 (Zq i8 (Zq i9 (Zq i10 True.intro))))))))));refine SW.gB ci Zm hl cz ?_;rcases z1:((o.to:Int) == 0) with _|_
 .refine RW.gE hl cz ?_
  refine SW.ret ?_;exact End.mk [] (h4:=⟨by simp only[zeroV,f0,f1,f2,f3,f4,f5,f6,f7,f8,f9,f10,z1,Bool.true_or,Bool.or_true,Bool.false_or,Bool.and_false,Bool.false_and,Bool.true_and,Bool.and_true,Bool.or_false];rfl,rfl⟩)
 refine RW.gG hl cz ?_;rcases z2:((o.bn:Int) == 0) with _|_
 .refine RW.gE hl cz ?_
  refine SW.ret ?_;exact End.mk [] (h4:=⟨by simp only[zeroV,f0,f1,f2,f3,f4,f5,f6,f7,f8,f9,f10,z1,z2,Bool.true_or,Bool.or_true,Bool.false_or,Bool.and_false,Bool.false_and,Bool.true_and,Bool.and_true,Bool.or_false];rfl,rfl⟩)
 refine RW.gG hl cz ?_;rcases z3:((o.depth:Int) == 0) with _|_
 .refine RW.gE hl cz ?_
  refine SW.ret ?_;exact End.mk [] (h4:=⟨by simp only[zeroV,f0,f1,f2,f3,f4,f5,f6,f7,f8,f9,f10,z1,z2,z3,Bool.true_or,Bool.or_true,Bool.false_or,Bool.and_false,Bool.false_and,Bool.true_and,Bool.and_true,Bool.or_false];rfl,rfl⟩)
 refine RW.gG hl cz ?_;rcases z4:((o.cap:Int) == 0) with _|_
 .refine RW.gE hl cz ?_
  refine SW.ret ?_;exact End.mk [] (h4:=⟨by simp only[zeroV,f0,f1,f2,f3,f4,f5,f6,f7,f8,f9,f10,z1,z2,z3,z4,Bool.true_or,Bool.or_true,Bool.false_or,Bool.and_false,Bool.false_and,Bool.true_and,Bool.and_true,Bool.or_false];rfl,rfl⟩)
 refine RW.gG hl cz ?_;rcases z7:((o.item:Int) == 0) with _|_
 .refine RW.gE hl cz ?_
  refine SW.ret ?_;exact End.mk [] (h4:=⟨by simp only[zeroV,f0,f1,f2,f3,f4,f5,f6,f7,f8,f9,f10,z1,z2,z3,z4,z7,Bool.true_or,Bool.or_true,Bool.false_or,Bool.and_false,Bool.false_and,Bool.true_and,Bool.and_true,Bool.or_false];rfl,rfl⟩)
 refine RW.gG hl cz ?_;rcases z8:((o.uu:Int) == 0) with _|_
 .refine RW.gE hl cz ?_
  refine SW.ret ?_;exact End.mk [] (h4:=⟨by simp only[zeroV,f0,f1,f2,f3,f4,f5,f6,f7,f8,f9,f10,z1,z2,z3,z4,z7,z8,Bool.true_or,Bool.or_true,Bool.false_or,Bool.and_false,Bool.false_and,Bool.true_and,Bool.and_true,Bool.or_false];rfl,rfl⟩)
 refine RW.gG hl cz ?_;rcases z9:((o.ff:Int) == 0) with _|_
 .refine RW.gE hl cz ?_
  refine SW.ret ?_;exact End.mk [] (h4:=⟨by simp only[zeroV,f0,f1,f2,f3,f4,f5,f6,f7,f8,f9,f10,z1,z2,z3,z4,z7,z8,z9,Bool.true_or,Bool.or_true,Bool.false_or,Bool.and_false,Bool.false_and,Bool.true_and,Bool.and_true,Bool.or_false];rfl,rfl⟩)
 refine RW.gG hl cz ?_;rcases z10:((nl:Int) == 0) with _|_
 .refine RW.gE hl cz ?_
  refine SW.ret ?_;exact End.mk [] (h4:=⟨by simp only[zeroV,f0,f1,f2,f3,f4,f5,f6,f7,f8,f9,f10,z1,z2,z3,z4,z7,z8,z9,z10,Bool.true_or,Bool.or_true,Bool.false_or,Bool.and_false,Bool.false_and,Bool.true_and,Bool.and_true,Bool.or_false];rfl,rfl⟩)
 refine RW.gE hl cz ?_;refine SW.ret ?_;exact End.mk [] (h4:=⟨by simp only[zeroV,f0,f1,f2,f3,f4,f5,f6,f7,f8,f9,f10,z1,z2,z3,z4,z7,z8,z9,z10,Bool.true_or,Bool.or_true,Bool.false_or,Bool.and_self,Bool.true_and,Bool.and_true];rfl,rfl⟩)
end
section
attribute [local irreducible] SW RW aH SC aj ak
set_option maxHeartbeats 4000000 in
theorem M7 (o:ag)(nl:Nat)(cs:List DV)(hl:o.lines= .sl nl cs)(hk:o.kind<256)(hS:aZ o.kind=[99,108]):Go.Sl.Pure Tryz.prog ref05_zero.f [.agg o.cells] (bl (zeroV [99,108] o nl)):=by
 have hh:=j_ o.kind hk;rw[hS] at hh;have f0:decide (99∈([99,108]:List Nat))=true:=by decide
 have i0:=av [99,108] (by decide) 99;rw[f0] at i0;have f1:decide (116∈([99,108]:List Nat))=false:=by decide
 have i1:=av [99,108] (by decide) 116;rw[f1] at i1;have f2:decide (114∈([99,108]:List Nat))=false:=by decide
 have i2:=av [99,108] (by decide) 114;rw[f2] at i2;have f3:decide (100∈([99,108]:List Nat))=false:=by decide
 have i3:=av [99,108] (by decide) 100;rw[f3] at i3;have f4:decide (112∈([99,108]:List Nat))=false:=by decide
 have i4:=av [99,108] (by decide) 112;rw[f4] at i4;have f5:decide (97∈([99,108]:List Nat))=false:=by decide
 have i5:=av [99,108] (by decide) 97;rw[f5] at i5;have f6:decide (118∈([99,108]:List Nat))=false:=by decide
 have i6:=av [99,108] (by decide) 118;rw[f6] at i6;have f7:decide (105∈([99,108]:List Nat))=false:=by decide
 have i7:=av [99,108] (by decide) 105;rw[f7] at i7;have f8:decide (113∈([99,108]:List Nat))=false:=by decide
 have i8:=av [99,108] (by decide) 113;rw[f8] at i8;have f9:decide (101∈([99,108]:List Nat))=false:=by decide
 have i9:=av [99,108] (by decide) 101;rw[f9] at i9;have f10:decide (108∈([99,108]:List Nat))=true:=by decide
 have i10:=av [99,108] (by decide) 108;rw[f10] at i10;refine ref05_zero.enter (by first|rfl|simp[SV.ok,SV.ax]) (by first|rfl|simp[Hp.ok,Ob.ok,SV.ok,SV.ax,ay.ah]) (by simp) ?_;dsimp only[ref05_zero.s,Co.M,Co.G,Co.J,Co.H,Co.F,Co.C,Co.Z,Co.B,Co.b8,Co.aB,Co.bE,Co.T,Co.P,Co.x,Co.W,Co.U,Co.D,Co.S];have cz:=Zq hh True.intro;refine SW.seq (SW.g1 ci Zm aa hh ?_);refine SW.seq (SW.g1 ci Zm aa hh ?_);refine SW.seq (SW.g1 ci Zm aa hh ?_);refine SW.seq ?_;have cz:=Zq i0 (Zq i1 (Zq i2 (Zq i3 (Zq i4 (Zq i5 (Zq i6 (Zq i7 (Zq i8 (Zq i9 (Zq i10 True.intro))))))))));refine SW.gB ci Zm hl cz ?_;rcases z1:((o.to:Int) == 0) with _|_
 .refine RW.gE hl cz ?_
  refine SW.ret ?_;exact End.mk [] (h4:=⟨by simp only[zeroV,f0,f1,f2,f3,f4,f5,f6,f7,f8,f9,f10,z1,Bool.true_or,Bool.or_true,Bool.false_or,Bool.and_false,Bool.false_and,Bool.true_and,Bool.and_true,Bool.or_false];rfl,rfl⟩)
 refine RW.gG hl cz ?_;rcases z2:((o.bn:Int) == 0) with _|_
 .refine RW.gE hl cz ?_
  refine SW.ret ?_;exact End.mk [] (h4:=⟨by simp only[zeroV,f0,f1,f2,f3,f4,f5,f6,f7,f8,f9,f10,z1,z2,Bool.true_or,Bool.or_true,Bool.false_or,Bool.and_false,Bool.false_and,Bool.true_and,Bool.and_true,Bool.or_false];rfl,rfl⟩)
 refine RW.gG hl cz ?_;rcases z3:((o.depth:Int) == 0) with _|_
 .refine RW.gE hl cz ?_
  refine SW.ret ?_;exact End.mk [] (h4:=⟨by simp only[zeroV,f0,f1,f2,f3,f4,f5,f6,f7,f8,f9,f10,z1,z2,z3,Bool.true_or,Bool.or_true,Bool.false_or,Bool.and_false,Bool.false_and,Bool.true_and,Bool.and_true,Bool.or_false];rfl,rfl⟩)
 refine RW.gG hl cz ?_;rcases z4:((o.cap:Int) == 0) with _|_
 .refine RW.gE hl cz ?_
  refine SW.ret ?_;exact End.mk [] (h4:=⟨by simp only[zeroV,f0,f1,f2,f3,f4,f5,f6,f7,f8,f9,f10,z1,z2,z3,z4,Bool.true_or,Bool.or_true,Bool.false_or,Bool.and_false,Bool.false_and,Bool.true_and,Bool.and_true,Bool.or_false];rfl,rfl⟩)
 refine RW.gG hl cz ?_;rcases z5:decide (o.at_=(⟨0,0⟩:Dt)) with _|_
 .refine RW.gE hl cz ?_
  refine SW.ret ?_;exact End.mk [] (h4:=⟨by simp only[zeroV,f0,f1,f2,f3,f4,f5,f6,f7,f8,f9,f10,z1,z2,z3,z4,z5,Bool.true_or,Bool.or_true,Bool.false_or,Bool.and_false,Bool.false_and,Bool.true_and,Bool.and_true,Bool.or_false];rfl,rfl⟩)
 refine RW.gG hl cz ?_;rcases z6:decide (o.jA=(⟨0,0⟩:Dt)) with _|_
 .refine RW.gE hl cz ?_
  refine SW.ret ?_;exact End.mk [] (h4:=⟨by simp only[zeroV,f0,f1,f2,f3,f4,f5,f6,f7,f8,f9,f10,z1,z2,z3,z4,z5,z6,Bool.true_or,Bool.or_true,Bool.false_or,Bool.and_false,Bool.false_and,Bool.true_and,Bool.and_true,Bool.or_false];rfl,rfl⟩)
 refine RW.gG hl cz ?_;rcases z7:((o.item:Int) == 0) with _|_
 .refine RW.gE hl cz ?_
  refine SW.ret ?_;exact End.mk [] (h4:=⟨by simp only[zeroV,f0,f1,f2,f3,f4,f5,f6,f7,f8,f9,f10,z1,z2,z3,z4,z5,z6,z7,Bool.true_or,Bool.or_true,Bool.false_or,Bool.and_false,Bool.false_and,Bool.true_and,Bool.and_true,Bool.or_false];rfl,rfl⟩)
 refine RW.gG hl cz ?_;rcases z8:((o.uu:Int) == 0) with _|_
 .refine RW.gE hl cz ?_
  refine SW.ret ?_;exact End.mk [] (h4:=⟨by simp only[zeroV,f0,f1,f2,f3,f4,f5,f6,f7,f8,f9,f10,z1,z2,z3,z4,z5,z6,z7,z8,Bool.true_or,Bool.or_true,Bool.false_or,Bool.and_false,Bool.false_and,Bool.true_and,Bool.and_true,Bool.or_false];rfl,rfl⟩)
 refine RW.gG hl cz ?_;rcases z9:((o.ff:Int) == 0) with _|_
 .refine RW.gE hl cz ?_
  refine SW.ret ?_;exact End.mk [] (h4:=⟨by simp only[zeroV,f0,f1,f2,f3,f4,f5,f6,f7,f8,f9,f10,z1,z2,z3,z4,z5,z6,z7,z8,z9,Bool.true_or,Bool.or_true,Bool.false_or,Bool.and_false,Bool.false_and,Bool.true_and,Bool.and_true,Bool.or_false];rfl,rfl⟩)
 refine RW.gE hl cz ?_;refine SW.ret ?_;exact End.mk [] (h4:=⟨by simp only[zeroV,f0,f1,f2,f3,f4,f5,f6,f7,f8,f9,f10,z1,z2,z3,z4,z5,z6,z7,z8,z9,Bool.true_or,Bool.or_true,Bool.false_or,Bool.and_self,Bool.true_and,Bool.and_true];rfl,rfl⟩)
end
end Go.Proofs.YtaelhkkjgfobhaaGreat
namespace Go.Proofs.YtaelhkkjgfobhaaGreat
open Go.Sl Go.Proofs
attribute [local irreducible] SW RW aH SC aj ak
theorem aF {n:Int}{o:ag}(h1: ¬ (n<1\/8<n))(h: ¬ Go.Sl.Form n.toNat o):iD n o=5:=by unfold iD;rw[if_neg h1,if_neg h]
theorem wM {n:Int}{o:ag}(h1:n<1\/8<n):iD n o=2:=by unfold iD;rw[if_pos h1]
theorem EE (o:ag)(hk:o.kind<=8)(hl:o.mC)(k:Nat):aH Tryz.prog ref05_zero.f [.agg o.cells] [] k 0 (bl (zeroV (aZ o.kind) o o.cl.length)) []:=by
 have h:o.kind=0\/o.kind=1\/o.kind=2\/o.kind=3\/o.kind=4\/o.kind=5\/o.kind=6\/o.kind=7\/o.kind=8:=by omega
 have hk':o.kind<256:=by omega
 rcases h with h|h|h|h|h|h|h|h|h
 .have e:aZ o.kind=[]:=by rw[h];rfl
  rw[e];exact(M3 o _ _ hl.eq hk' e).sc rfl k
 .have e:aZ o.kind=[99,116,114,100,112]:=by rw[h];rfl
  rw[e];exact(M4 o _ _ hl.eq hk' e).sc rfl k
 .have e:aZ o.kind=[99,97]:=by rw[h];rfl
  rw[e];exact(H8 o _ _ hl.eq hk' e).sc rfl k
 .have e:aZ o.kind=[99,105,113,101]:=by rw[h];rfl
  rw[e];exact(M5 o _ _ hl.eq hk' e).sc rfl k
 .have e:aZ o.kind=[99,97,113]:=by rw[h];rfl
  rw[e];exact(M6 o _ _ hl.eq hk' e).sc rfl k
 .have e:aZ o.kind=[99,97]:=by rw[h];rfl
  rw[e];exact(H8 o _ _ hl.eq hk' e).sc rfl k
 .have e:aZ o.kind=[99,97,118]:=by rw[h];rfl
  rw[e];exact(H9 o _ _ hl.eq hk' e).sc rfl k
 .have e:aZ o.kind=[99,97,118]:=by rw[h];rfl
  rw[e];exact(H9 o _ _ hl.eq hk' e).sc rfl k
 .have e:aZ o.kind=[99,108]:=by rw[h];rfl
  rw[e];exact(M7 o _ _ hl.eq hk' e).sc rfl k
set_option maxHeartbeats 16000000 in
theorem H_ (o:ag)(n:Int)(hd:o.dot.wf)(hk:o.kind<256)(hl:o.mC):Go.Sl.Pure Tryz.prog ref05_Check.f [.agg o.cells,.d (.int .i64 n)] (.d (.int .i64 (iD n o))):=by
 refine ref05_Check.enter (by first|rfl|simp[SV.ok,SV.ax]) (by first|rfl|simp[Hp.ok,Ob.ok,SV.ok,SV.ax,ay.ah]) (by simp) ?_;dsimp only[ref05_Check.s,Co.M,Co.G,Co.J,Co.H,Co.F,Co.C,Co.Z,Co.B,Co.b8,Co.aB,Co.bE,Co.T,Co.P,Co.x,Co.Y,Co.V,Co.U,Co.D,Co.S];refine SW.seq (SW.g0 al Zm aa ?_);refine SW.seq (SW.seq (SW.gB al Zm aa True.intro ?_));rcases a1:decide (n<1) with _|_
 rotate_left
 .rw[wM (.inl (by simpa using a1))]
  refine RW.gE aa True.intro ?_;refine SW.ai rfl (SW.seq (SW.g0 al Zm aa ?_));refine SW.ret ?_;exact End.mk [] (h4:=⟨rfl,rfl⟩)
 refine RW.gG aa True.intro ?_;rcases a2:decide (n>8) with _|_
 rotate_left
 .rw[wM (.inr (by simpa using a2))]
  refine RW.gE aa True.intro ?_;refine SW.ai rfl (SW.seq (SW.g0 al Zm aa ?_));refine SW.ret ?_;exact End.mk [] (h4:=⟨rfl,rfl⟩)
 refine RW.gE aa True.intro ?_;refine SW.an rfl (SW.skip ?_);have hn: ¬ (n<1\/8<n):=by simp at a1 a2;omega
 obtain⟨m,rfl⟩:=Int.eq_ofNat_of_zero_le (show 0<=n by omega);have hm:m<=8:=by omega
 have hd2:o.dot.n<4294967296:=hd.2;have e0:IntKind.i64.wrap (o.dot.r:Int)=o.dot.r:=wrap_i64 _ (by have:=hd.1;omega);refine SW.seq (SW.seq (SW.gB al Zm e0 True.intro ?_));rcases b1:decide ((o.dot.r:Int)>=(m:Int)) with _|_
 rotate_left
 .rw[aF hn (λ h=>by have h:Go.Sl.Form m o:=h;exact absurd h.r (by simp at b1;omega))]
  refine RW.gE aa True.intro ?_;refine SW.ai rfl (SW.seq (SW.g0 al Zm aa ?_));refine SW.ret ?_;exact End.mk [] (h4:=⟨rfl,rfl⟩)
 refine RW.gG aa True.intro ?_;rcases b2:((o.dot.n:Int) == 0) with _|_
 rotate_left
 .rw[aF hn (λ h=>by have h:Go.Sl.Form m o:=h;exact absurd h.pos (by simp at b2;omega))]
  refine RW.gE aa True.intro ?_;refine SW.ai rfl (SW.seq (SW.g0 al Zm aa ?_));refine SW.ret ?_;exact End.mk [] (h4:=⟨rfl,rfl⟩)
 have hr8:o.dot.r<8:=by simp at b1;omega
 have hpos:0<o.dot.n:=by simp at b2;omega
 have e3:IntKind.u32.wrap ((o.dot.n:Int) - 1)=((o.dot.n - 1:Nat):Int):=by rw[wrap_u32' _ (by omega)];omega
 refine RW.gG (Zq e3 (jW o hr8)) True.intro ?_;rcases b3:((o.dep.get o.dot.r:Int) != ((o.dot.n - 1:Nat):Int)) with _|_
 rotate_left
 .rw[aF hn (λ h=>by have h:Go.Sl.Form m o:=h;exact absurd h.own (by simp at b3;omega))]
  refine RW.gE aa True.intro ?_;refine SW.ai rfl (SW.seq (SW.g0 al Zm aa ?_));refine SW.ret ?_;exact End.mk [] (h4:=⟨rfl,rfl⟩)
 refine RW.gG aa True.intro ?_;rcases b4:decide ((o.time:Int)<1) with _|_
 rotate_left
 .rw[aF hn (λ h=>by have h:Go.Sl.Form m o:=h;exact absurd h.t1 (by simp at b4;omega))]
  refine RW.gE aa True.intro ?_;refine SW.ai rfl (SW.seq (SW.g0 al Zm aa ?_));refine SW.ret ?_;exact End.mk [] (h4:=⟨rfl,rfl⟩)
 refine RW.gG aa True.intro ?_;rcases b5:decide ((o.time:Int)>281474976710656) with _|_
 rotate_left
 .rw[aF hn (λ h=>by have h:Go.Sl.Form m o:=h;exact absurd h.t2 (by simp at b5;omega))]
  refine RW.gE aa True.intro ?_;refine SW.ai rfl (SW.seq (SW.g0 al Zm aa ?_));refine SW.ret ?_;exact End.mk [] (h4:=⟨rfl,rfl⟩)
 refine RW.gG aa True.intro ?_;rcases b6:((o.who:Int) == 0) with _|_
 rotate_left
 .rw[aF hn (λ h=>by have h:Go.Sl.Form m o:=h;exact absurd h.who (by simp at b6;omega))]
  refine RW.gE aa True.intro ?_;refine SW.ai rfl (SW.seq (SW.g0 al Zm aa ?_));refine SW.ret ?_;exact End.mk [] (h4:=⟨rfl,rfl⟩)
 refine RW.gG aa True.intro ?_;rcases b7:decide ((o.kind:Int)>8) with _|_
 rotate_left
 .rw[aF hn (λ h=>by have h:Go.Sl.Form m o:=h;exact absurd h.kind (by simp at b7;omega))]
  refine RW.gE aa True.intro ?_;refine SW.ai rfl (SW.seq (SW.g0 al Zm aa ?_));refine SW.ret ?_;exact End.mk [] (h4:=⟨rfl,rfl⟩)
 have hk8:o.kind<=8:=by simp at b7;omega
 have hz:=EE o hk8 hl;have cz:=Zq hz True.intro;refine RW.gG aa cz ?_;rcases b8:zeroV (aZ o.kind) o o.cl.length with _|_
 .rw[aF hn (λ h=>by have h:Go.Sl.Form m o:=h;exact by have:=h.zero;rw[b8] at this;cases this)]
  refine RW.gE aa cz ?_;refine SW.ai rfl (SW.seq (SW.g1 al Zm aa hz ?_));refine SW.ret ?_;exact End.mk [] (h4:=⟨rfl,rfl⟩)
 refine RW.gE aa cz ?_;refine SW.an rfl (SW.skip ?_);have h0s:(aZ o.kind).length<4611686018427387904:=by
  have:o.kind=0\/o.kind=1\/o.kind=2\/o.kind=3\/o.kind=4\/o.kind=5\/o.kind=6\/o.kind=7\/o.kind=8:=by omega
  rcases this with h|h|h|h|h|h|h|h|h<;>rw[h]<;>decide
 refine SW.seq (SW.seq (SW.g1 al Zm aa hz ?_));refine SW.block (SW.j6 (α:={i:Nat // m<=i/\i<=8/\∀ r,m<=r->r<i->o.dep.get r=0}) (λ i=>⟨[(5,i64 i.1),(2,.ptr 0 0)],[(0,.box 43 o.cells)],1⟩) (λ i=>8 - i.1) ⟨m,Nat.le_refl _,hm,λ r h1 h2=>by omega⟩ id aa (round:= ?_));rintro⟨i,hmi,hi,hs⟩
 by_cases h:i<8
 .have h1:decide ((i:Int)<8)=true:=by simp;omega
  have e2:IntKind.i64.wrap ((i:Int)+1)=((i+1:Nat):Int):=wrap_i64 _ (by omega);refine SW.seq (SW.seq (SW.g1 al Zm h1 hz ?_));refine SW.ai rfl (SW.skip (SW.seq (SW.block (SW.seq ?_))));rcases c1:((o.dep.get i:Int) != 0) with _|_
  .refine SW.g1 al Zm (Zq (jW o h) (c1)) hz ?_
   refine SW.an rfl (SW.skip ?_);refine SW.g1 al Zm e2 hz ?_;dsimp only;exact⟨⟨i+1,by omega,by omega,λ r h1 h2=>by
    by_cases hri:r=i
    .subst hri;simp at c1;omega
    .exact hs r h1 (by omega)⟩,id,by show 8 - (i+1)<_;omega,aG.mk aa⟩
  .rw[aF hn (λ h'=>by have h':Go.Sl.Form m o:=h';exact absurd (h'.KT i hmi h) (by simp at c1;omega))]
   refine SW.g1 al Zm (Zq (jW o h) (c1)) hz ?_;refine SW.ai rfl (SW.seq (SW.g1 al Zm aa hz ?_));refine SW.ret ?_;exact End.mk [] (h4:=⟨rfl,rfl⟩)
 have h1:decide ((i:Int)<8)=false:=by simp;omega
 have hfar:∀ r,m<=r->r<8->o.dep.get r=0:=λ r h1 h2=>hs r h1 (by omega)
 refine SW.seq (SW.seq (SW.g1 al Zm h1 hz ?_));refine SW.an rfl (SW.exit ?_);have hh:=j_ o.kind hk;refine SW.seq ?_;have cz:=Zq hh True.intro;refine SW.g1 al Zm aa hh ?_;have v1:=nh o o.aK;have v2:=nh o o.aP;have v3:=nh o o.at_;have v4:=nh o o.jA;have vl:=Ci o o.cl hl.le hl.eq;have hkk:o.kind=0\/o.kind=1\/(o.kind=2\/o.kind=5)\/o.kind=3\/o.kind=4\/(o.kind=6\/o.kind=7)\/o.kind=8:=by omega
 rcases hkk with hkd|hkd|hkd|hkd|hkd|hkd|hkd
 .have hK:aZ o.kind=[]:=by first|(rw[hkd];rfl)|(rcases hkd with h|h<;>rw[h]<;>rfl)
  have b99:decide (99∈aZ o.kind)=false:=by rw[hK];decide
  have i99:=av (aZ o.kind) h0s 99;rw[b99] at i99;have b97:decide (97∈aZ o.kind)=false:=by rw[hK];decide
  have i97:=av (aZ o.kind) h0s 97;rw[b97] at i97;have b118:decide (118∈aZ o.kind)=false:=by rw[hK];decide
  have i118:=av (aZ o.kind) h0s 118;rw[b118] at i118;have b116:decide (116∈aZ o.kind)=false:=by rw[hK];decide
  have i116:=av (aZ o.kind) h0s 116;rw[b116] at i116;have b113:decide (113∈aZ o.kind)=false:=by rw[hK];decide
  have i113:=av (aZ o.kind) h0s 113;rw[b113] at i113;have b108:decide (108∈aZ o.kind)=false:=by rw[hK];decide
  have i108:=av (aZ o.kind) h0s 108;rw[b108] at i108;have k0:((o.kind:Int) == 0)=true:=by rw[hkd];rfl
  have k1:((o.kind:Int) != 0)=false:=by rw[hkd];rfl
  refine SW.seq (SW.seq ?_);have cz:=Zq v1 (Zq v2 (Zq v3 (Zq v4 (Zq vl (Zq i99 (Zq i97 (Zq i118 (Zq i116 (Zq i113 (Zq i108 True.intro))))))))));refine SW.gB al Zm (Zq k0 k1) cz ?_;rcases g1:decide (o.aK=o.dot) with _|_
  .rw[aF hn (λ h=>by have h:Go.Sl.Form m o:=h;exact by have:=h.gen hkd;simp at g1;exact g1 this)]
   refine RW.gE (Zq k0 k1) cz ?_;refine SW.ai rfl (SW.seq (SW.gM al Zm aa cz ?_));refine SW.ret ?_;exact End.mk [] (h4:=⟨rfl,rfl⟩)
  refine RW.gE (Zq k0 k1) cz ?_;refine SW.an rfl (SW.skip (SW.seq (SW.seq (SW.gB al Zm aa cz ?_))));rcases p1:decide ((o.ff:Int)>16777215) with _|_
  rotate_left
  .rw[aF hn (λ h=>by have h:Go.Sl.Form m o:=h;exact absurd h.ff (by simp at p1;omega))]
   refine RW.gE aa cz ?_;refine SW.ai rfl (SW.seq (SW.gM al Zm aa cz ?_));refine SW.ret ?_;exact End.mk [] (h4:=⟨rfl,rfl⟩)
  refine RW.gE aa cz ?_;refine SW.an rfl (SW.skip (SW.seq (SW.gM al Zm aa cz ?_)));refine SW.ret ?_;have hF:Go.Sl.Form m o:=⟨by simp at b1;omega,hpos,by simp at b3;omega,by simp at b4;omega,by simp at b5;omega,by simp at b6;omega,hk8,b8,hfar,λ _=>of_decide_eq_true g1,λ h=>absurd hkd h,(λ h=>by have:=decide_eq_true h;rw[b99] at this;cases this),(λ h=>by have:=decide_eq_true h;rw[b97] at this;cases this),(λ h=>by have:=decide_eq_true h;rw[b118] at this;cases this),(λ h=>by have:=decide_eq_true h;rw[b116] at this;cases this),(λ h=>by have:=decide_eq_true h;rw[b113] at this;cases this),by simp at p1;omega,(λ h=>by have:=decide_eq_true h;rw[b108] at this;cases this)⟩;have hV:iD (m:Int) o=0:=fh.2 ⟨by omega,by omega,hF⟩;rw[hV];exact End.mk [] (h4:=⟨rfl,rfl⟩)
 .have hK:aZ o.kind=[99,116,114,100,112]:=by first|(rw[hkd];rfl)|(rcases hkd with h|h<;>rw[h]<;>rfl)
  have b99:decide (99∈aZ o.kind)=true:=by rw[hK];decide
  have i99:=av (aZ o.kind) h0s 99;rw[b99] at i99;have b97:decide (97∈aZ o.kind)=false:=by rw[hK];decide
  have i97:=av (aZ o.kind) h0s 97;rw[b97] at i97;have b118:decide (118∈aZ o.kind)=false:=by rw[hK];decide
  have i118:=av (aZ o.kind) h0s 118;rw[b118] at i118;have b116:decide (116∈aZ o.kind)=true:=by rw[hK];decide
  have i116:=av (aZ o.kind) h0s 116;rw[b116] at i116;have b113:decide (113∈aZ o.kind)=false:=by rw[hK];decide
  have i113:=av (aZ o.kind) h0s 113;rw[b113] at i113;have b108:decide (108∈aZ o.kind)=false:=by rw[hK];decide
  have i108:=av (aZ o.kind) h0s 108;rw[b108] at i108;have k0:((o.kind:Int) == 0)=false:=by simp;omega
  have k1:((o.kind:Int) != 0)=true:=by simp;omega
  refine SW.seq (SW.seq ?_);have cz:=Zq v1 (Zq v2 (Zq v3 (Zq v4 (Zq vl (Zq i99 (Zq i97 (Zq i118 (Zq i116 (Zq i113 (Zq i108 True.intro))))))))));refine SW.gB al Zm (Zq k0 k1) cz ?_;rcases g1:o.dep.aU o.aK with _|_
  .rw[aF hn (λ h=>by have h:Go.Sl.Form m o:=h;exact by have:=h.aK (by omega);rw[g1] at this;cases this)]
   refine RW.gE (Zq k0 k1) cz ?_;refine SW.ai rfl (SW.seq (SW.gM al Zm aa cz ?_));refine SW.ret ?_;exact End.mk [] (h4:=⟨rfl,rfl⟩)
  refine RW.gG (Zq k0 k1) cz ?_;rcases g2:o.dep.aU o.aP with _|_
  .rw[aF hn (λ h=>by have h:Go.Sl.Form m o:=h;exact by have:=h.aP (of_decide_eq_true b99);rw[g2] at this;cases this)]
   refine RW.gE (Zq k0 k1) cz ?_;refine SW.ai rfl (SW.seq (SW.gM al Zm aa cz ?_));refine SW.ret ?_;exact End.mk [] (h4:=⟨rfl,rfl⟩)
  refine RW.gE (Zq k0 k1) cz ?_;refine SW.an rfl (SW.skip (SW.seq (SW.seq (SW.gB al Zm aa cz ?_))));rcases t0:((o.to:Int) == 0) with _|_
  rotate_left
  .rw[aF hn (λ h=>by have h:Go.Sl.Form m o:=h;exact absurd (h.Ao (of_decide_eq_true b116)).1 (by simp at t0;omega))]
   refine RW.gE aa cz ?_;refine SW.ai rfl (SW.seq (SW.gM al Zm aa cz ?_));refine SW.ret ?_;exact End.mk [] (h4:=⟨rfl,rfl⟩)
  refine RW.gG aa cz ?_;rcases t1:decide ((o.bn:Int)<1) with _|_
  rotate_left
  .rw[aF hn (λ h=>by have h:Go.Sl.Form m o:=h;exact absurd (h.Ao (of_decide_eq_true b116)).2.1 (by simp at t1;omega))]
   refine RW.gE aa cz ?_;refine SW.ai rfl (SW.seq (SW.gM al Zm aa cz ?_));refine SW.ret ?_;exact End.mk [] (h4:=⟨rfl,rfl⟩)
  refine RW.gG aa cz ?_;rcases t2:decide ((o.bn:Int)>7) with _|_
  rotate_left
  .rw[aF hn (λ h=>by have h:Go.Sl.Form m o:=h;exact absurd (h.Ao (of_decide_eq_true b116)).2.2.1 (by simp at t2;omega))]
   refine RW.gE aa cz ?_;refine SW.ai rfl (SW.seq (SW.gM al Zm aa cz ?_));refine SW.ret ?_;exact End.mk [] (h4:=⟨rfl,rfl⟩)
  refine RW.gG aa cz ?_;rcases t3:decide ((o.depth:Int)>7) with _|_
  rotate_left
  .rw[aF hn (λ h=>by have h:Go.Sl.Form m o:=h;exact absurd (h.Ao (of_decide_eq_true b116)).2.2.2.1 (by simp at t3;omega))]
   refine RW.gE aa cz ?_;refine SW.ai rfl (SW.seq (SW.gM al Zm aa cz ?_));refine SW.ret ?_;exact End.mk [] (h4:=⟨rfl,rfl⟩)
  refine RW.gG aa cz ?_;rcases t4:decide ((o.cap:Int)>1099511627776) with _|_
  rotate_left
  .rw[aF hn (λ h=>by have h:Go.Sl.Form m o:=h;exact absurd (h.Ao (of_decide_eq_true b116)).2.2.2.2 (by simp at t4;omega))]
   refine RW.gE aa cz ?_;refine SW.ai rfl (SW.seq (SW.gM al Zm aa cz ?_));refine SW.ret ?_;exact End.mk [] (h4:=⟨rfl,rfl⟩)
  refine RW.gG aa cz ?_;rcases p1:decide ((o.ff:Int)>16777215) with _|_
  rotate_left
  .rw[aF hn (λ h=>by have h:Go.Sl.Form m o:=h;exact absurd h.ff (by simp at p1;omega))]
   refine RW.gE aa cz ?_;refine SW.ai rfl (SW.seq (SW.gM al Zm aa cz ?_));refine SW.ret ?_;exact End.mk [] (h4:=⟨rfl,rfl⟩)
  refine RW.gE aa cz ?_;refine SW.an rfl (SW.skip (SW.seq (SW.gM al Zm aa cz ?_)));refine SW.ret ?_;have hF:Go.Sl.Form m o:=⟨by simp at b1;omega,hpos,by simp at b3;omega,by simp at b4;omega,by simp at b5;omega,by simp at b6;omega,hk8,b8,hfar,λ h=>by omega,λ _=>g1,λ _=>g2,(λ h=>by have:=decide_eq_true h;rw[b97] at this;cases this),(λ h=>by have:=decide_eq_true h;rw[b118] at this;cases this),λ _=>⟨by simp at t0;omega,by simp at t1;omega,by simp at t2;omega,by simp at t3;omega,by simp at t4;omega⟩,(λ h=>by have:=decide_eq_true h;rw[b113] at this;cases this),by simp at p1;omega,(λ h=>by have:=decide_eq_true h;rw[b108] at this;cases this)⟩;have hV:iD (m:Int) o=0:=fh.2 ⟨by omega,by omega,hF⟩;rw[hV];exact End.mk [] (h4:=⟨rfl,rfl⟩)
 .have hK:aZ o.kind=[99,97]:=by first|(rw[hkd];rfl)|(rcases hkd with h|h<;>rw[h]<;>rfl)
  have b99:decide (99∈aZ o.kind)=true:=by rw[hK];decide
  have i99:=av (aZ o.kind) h0s 99;rw[b99] at i99;have b97:decide (97∈aZ o.kind)=true:=by rw[hK];decide
  have i97:=av (aZ o.kind) h0s 97;rw[b97] at i97;have b118:decide (118∈aZ o.kind)=false:=by rw[hK];decide
  have i118:=av (aZ o.kind) h0s 118;rw[b118] at i118;have b116:decide (116∈aZ o.kind)=false:=by rw[hK];decide
  have i116:=av (aZ o.kind) h0s 116;rw[b116] at i116;have b113:decide (113∈aZ o.kind)=false:=by rw[hK];decide
  have i113:=av (aZ o.kind) h0s 113;rw[b113] at i113;have b108:decide (108∈aZ o.kind)=false:=by rw[hK];decide
  have i108:=av (aZ o.kind) h0s 108;rw[b108] at i108;have k0:((o.kind:Int) == 0)=false:=by simp;omega
  have k1:((o.kind:Int) != 0)=true:=by simp;omega
  refine SW.seq (SW.seq ?_);have cz:=Zq v1 (Zq v2 (Zq v3 (Zq v4 (Zq vl (Zq i99 (Zq i97 (Zq i118 (Zq i116 (Zq i113 (Zq i108 True.intro))))))))));refine SW.gB al Zm (Zq k0 k1) cz ?_;rcases g1:o.dep.aU o.aK with _|_
  .rw[aF hn (λ h=>by have h:Go.Sl.Form m o:=h;exact by have:=h.aK (by omega);rw[g1] at this;cases this)]
   refine RW.gE (Zq k0 k1) cz ?_;refine SW.ai rfl (SW.seq (SW.gM al Zm aa cz ?_));refine SW.ret ?_;exact End.mk [] (h4:=⟨rfl,rfl⟩)
  refine RW.gG (Zq k0 k1) cz ?_;rcases g2:o.dep.aU o.aP with _|_
  .rw[aF hn (λ h=>by have h:Go.Sl.Form m o:=h;exact by have:=h.aP (of_decide_eq_true b99);rw[g2] at this;cases this)]
   refine RW.gE (Zq k0 k1) cz ?_;refine SW.ai rfl (SW.seq (SW.gM al Zm aa cz ?_));refine SW.ret ?_;exact End.mk [] (h4:=⟨rfl,rfl⟩)
  refine RW.gG (Zq k0 k1) cz ?_;rcases g3:o.dep.aU o.at_ with _|_
  .rw[aF hn (λ h=>by have h:Go.Sl.Form m o:=h;exact by have:=h.at_ (of_decide_eq_true b97);rw[g3] at this;cases this)]
   refine RW.gE (Zq k0 k1) cz ?_;refine SW.ai rfl (SW.seq (SW.gM al Zm aa cz ?_));refine SW.ret ?_;exact End.mk [] (h4:=⟨rfl,rfl⟩)
  refine RW.gE (Zq k0 k1) cz ?_;refine SW.an rfl (SW.skip (SW.seq (SW.seq (SW.gB al Zm aa cz ?_))));rcases p1:decide ((o.ff:Int)>16777215) with _|_
  rotate_left
  .rw[aF hn (λ h=>by have h:Go.Sl.Form m o:=h;exact absurd h.ff (by simp at p1;omega))]
   refine RW.gE aa cz ?_;refine SW.ai rfl (SW.seq (SW.gM al Zm aa cz ?_));refine SW.ret ?_;exact End.mk [] (h4:=⟨rfl,rfl⟩)
  refine RW.gE aa cz ?_;refine SW.an rfl (SW.skip (SW.seq (SW.gM al Zm aa cz ?_)));refine SW.ret ?_;have hF:Go.Sl.Form m o:=⟨by simp at b1;omega,hpos,by simp at b3;omega,by simp at b4;omega,by simp at b5;omega,by simp at b6;omega,hk8,b8,hfar,λ h=>by omega,λ _=>g1,λ _=>g2,λ _=>g3,(λ h=>by have:=decide_eq_true h;rw[b118] at this;cases this),(λ h=>by have:=decide_eq_true h;rw[b116] at this;cases this),(λ h=>by have:=decide_eq_true h;rw[b113] at this;cases this),by simp at p1;omega,(λ h=>by have:=decide_eq_true h;rw[b108] at this;cases this)⟩;have hV:iD (m:Int) o=0:=fh.2 ⟨by omega,by omega,hF⟩;rw[hV];exact End.mk [] (h4:=⟨rfl,rfl⟩)
 .have hK:aZ o.kind=[99,105,113,101]:=by first|(rw[hkd];rfl)|(rcases hkd with h|h<;>rw[h]<;>rfl)
  have b99:decide (99∈aZ o.kind)=true:=by rw[hK];decide
  have i99:=av (aZ o.kind) h0s 99;rw[b99] at i99;have b97:decide (97∈aZ o.kind)=false:=by rw[hK];decide
  have i97:=av (aZ o.kind) h0s 97;rw[b97] at i97;have b118:decide (118∈aZ o.kind)=false:=by rw[hK];decide
  have i118:=av (aZ o.kind) h0s 118;rw[b118] at i118;have b116:decide (116∈aZ o.kind)=false:=by rw[hK];decide
  have i116:=av (aZ o.kind) h0s 116;rw[b116] at i116;have b113:decide (113∈aZ o.kind)=true:=by rw[hK];decide
  have i113:=av (aZ o.kind) h0s 113;rw[b113] at i113;have b108:decide (108∈aZ o.kind)=false:=by rw[hK];decide
  have i108:=av (aZ o.kind) h0s 108;rw[b108] at i108;have k0:((o.kind:Int) == 0)=false:=by simp;omega
  have k1:((o.kind:Int) != 0)=true:=by simp;omega
  refine SW.seq (SW.seq ?_);have cz:=Zq v1 (Zq v2 (Zq v3 (Zq v4 (Zq vl (Zq i99 (Zq i97 (Zq i118 (Zq i116 (Zq i113 (Zq i108 True.intro))))))))));refine SW.gB al Zm (Zq k0 k1) cz ?_;rcases g1:o.dep.aU o.aK with _|_
  .rw[aF hn (λ h=>by have h:Go.Sl.Form m o:=h;exact by have:=h.aK (by omega);rw[g1] at this;cases this)]
   refine RW.gE (Zq k0 k1) cz ?_;refine SW.ai rfl (SW.seq (SW.gM al Zm aa cz ?_));refine SW.ret ?_;exact End.mk [] (h4:=⟨rfl,rfl⟩)
  refine RW.gG (Zq k0 k1) cz ?_;rcases g2:o.dep.aU o.aP with _|_
  .rw[aF hn (λ h=>by have h:Go.Sl.Form m o:=h;exact by have:=h.aP (of_decide_eq_true b99);rw[g2] at this;cases this)]
   refine RW.gE (Zq k0 k1) cz ?_;refine SW.ai rfl (SW.seq (SW.gM al Zm aa cz ?_));refine SW.ret ?_;exact End.mk [] (h4:=⟨rfl,rfl⟩)
  refine RW.gE (Zq k0 k1) cz ?_;refine SW.an rfl (SW.skip (SW.seq (SW.seq (SW.gB al Zm aa cz ?_))));rcases q0:decide ((o.uu:Int)<1) with _|_
  rotate_left
  .rw[aF hn (λ h=>by have h:Go.Sl.Form m o:=h;exact absurd (h.uu (of_decide_eq_true b113)).1 (by simp at q0;omega))]
   refine RW.gE aa cz ?_;refine SW.ai rfl (SW.seq (SW.gM al Zm aa cz ?_));refine SW.ret ?_;exact End.mk [] (h4:=⟨rfl,rfl⟩)
  refine RW.gG aa cz ?_;rcases q1:decide ((o.uu:Int)>65535) with _|_
  rotate_left
  .rw[aF hn (λ h=>by have h:Go.Sl.Form m o:=h;exact absurd (h.uu (of_decide_eq_true b113)).2 (by simp at q1;omega))]
   refine RW.gE aa cz ?_;refine SW.ai rfl (SW.seq (SW.gM al Zm aa cz ?_));refine SW.ret ?_;exact End.mk [] (h4:=⟨rfl,rfl⟩)
  refine RW.gG aa cz ?_;rcases p1:decide ((o.ff:Int)>16777215) with _|_
  rotate_left
  .rw[aF hn (λ h=>by have h:Go.Sl.Form m o:=h;exact absurd h.ff (by simp at p1;omega))]
   refine RW.gE aa cz ?_;refine SW.ai rfl (SW.seq (SW.gM al Zm aa cz ?_));refine SW.ret ?_;exact End.mk [] (h4:=⟨rfl,rfl⟩)
  refine RW.gE aa cz ?_;refine SW.an rfl (SW.skip (SW.seq (SW.gM al Zm aa cz ?_)));refine SW.ret ?_;have hF:Go.Sl.Form m o:=⟨by simp at b1;omega,hpos,by simp at b3;omega,by simp at b4;omega,by simp at b5;omega,by simp at b6;omega,hk8,b8,hfar,λ h=>by omega,λ _=>g1,λ _=>g2,(λ h=>by have:=decide_eq_true h;rw[b97] at this;cases this),(λ h=>by have:=decide_eq_true h;rw[b118] at this;cases this),(λ h=>by have:=decide_eq_true h;rw[b116] at this;cases this),λ _=>⟨by simp at q0;omega,by simp at q1;omega⟩,by simp at p1;omega,(λ h=>by have:=decide_eq_true h;rw[b108] at this;cases this)⟩;have hV:iD (m:Int) o=0:=fh.2 ⟨by omega,by omega,hF⟩;rw[hV];exact End.mk [] (h4:=⟨rfl,rfl⟩)
 .have hK:aZ o.kind=[99,97,113]:=by first|(rw[hkd];rfl)|(rcases hkd with h|h<;>rw[h]<;>rfl)
  have b99:decide (99∈aZ o.kind)=true:=by rw[hK];decide
  have i99:=av (aZ o.kind) h0s 99;rw[b99] at i99;have b97:decide (97∈aZ o.kind)=true:=by rw[hK];decide
  have i97:=av (aZ o.kind) h0s 97;rw[b97] at i97;have b118:decide (118∈aZ o.kind)=false:=by rw[hK];decide
  have i118:=av (aZ o.kind) h0s 118;rw[b118] at i118;have b116:decide (116∈aZ o.kind)=false:=by rw[hK];decide
  have i116:=av (aZ o.kind) h0s 116;rw[b116] at i116;have b113:decide (113∈aZ o.kind)=true:=by rw[hK];decide
  have i113:=av (aZ o.kind) h0s 113;rw[b113] at i113;have b108:decide (108∈aZ o.kind)=false:=by rw[hK];decide
  have i108:=av (aZ o.kind) h0s 108;rw[b108] at i108;have k0:((o.kind:Int) == 0)=false:=by simp;omega
  have k1:((o.kind:Int) != 0)=true:=by simp;omega
  refine SW.seq (SW.seq ?_);have cz:=Zq v1 (Zq v2 (Zq v3 (Zq v4 (Zq vl (Zq i99 (Zq i97 (Zq i118 (Zq i116 (Zq i113 (Zq i108 True.intro))))))))));refine SW.gB al Zm (Zq k0 k1) cz ?_;rcases g1:o.dep.aU o.aK with _|_
  .rw[aF hn (λ h=>by have h:Go.Sl.Form m o:=h;exact by have:=h.aK (by omega);rw[g1] at this;cases this)]
   refine RW.gE (Zq k0 k1) cz ?_;refine SW.ai rfl (SW.seq (SW.gM al Zm aa cz ?_));refine SW.ret ?_;exact End.mk [] (h4:=⟨rfl,rfl⟩)
  refine RW.gG (Zq k0 k1) cz ?_;rcases g2:o.dep.aU o.aP with _|_
  .rw[aF hn (λ h=>by have h:Go.Sl.Form m o:=h;exact by have:=h.aP (of_decide_eq_true b99);rw[g2] at this;cases this)]
   refine RW.gE (Zq k0 k1) cz ?_;refine SW.ai rfl (SW.seq (SW.gM al Zm aa cz ?_));refine SW.ret ?_;exact End.mk [] (h4:=⟨rfl,rfl⟩)
  refine RW.gG (Zq k0 k1) cz ?_;rcases g3:o.dep.aU o.at_ with _|_
  .rw[aF hn (λ h=>by have h:Go.Sl.Form m o:=h;exact by have:=h.at_ (of_decide_eq_true b97);rw[g3] at this;cases this)]
   refine RW.gE (Zq k0 k1) cz ?_;refine SW.ai rfl (SW.seq (SW.gM al Zm aa cz ?_));refine SW.ret ?_;exact End.mk [] (h4:=⟨rfl,rfl⟩)
  refine RW.gE (Zq k0 k1) cz ?_;refine SW.an rfl (SW.skip (SW.seq (SW.seq (SW.gB al Zm aa cz ?_))));rcases q0:decide ((o.uu:Int)<1) with _|_
  rotate_left
  .rw[aF hn (λ h=>by have h:Go.Sl.Form m o:=h;exact absurd (h.uu (of_decide_eq_true b113)).1 (by simp at q0;omega))]
   refine RW.gE aa cz ?_;refine SW.ai rfl (SW.seq (SW.gM al Zm aa cz ?_));refine SW.ret ?_;exact End.mk [] (h4:=⟨rfl,rfl⟩)
  refine RW.gG aa cz ?_;rcases q1:decide ((o.uu:Int)>65535) with _|_
  rotate_left
  .rw[aF hn (λ h=>by have h:Go.Sl.Form m o:=h;exact absurd (h.uu (of_decide_eq_true b113)).2 (by simp at q1;omega))]
   refine RW.gE aa cz ?_;refine SW.ai rfl (SW.seq (SW.gM al Zm aa cz ?_));refine SW.ret ?_;exact End.mk [] (h4:=⟨rfl,rfl⟩)
  refine RW.gG aa cz ?_;rcases p1:decide ((o.ff:Int)>16777215) with _|_
  rotate_left
  .rw[aF hn (λ h=>by have h:Go.Sl.Form m o:=h;exact absurd h.ff (by simp at p1;omega))]
   refine RW.gE aa cz ?_;refine SW.ai rfl (SW.seq (SW.gM al Zm aa cz ?_));refine SW.ret ?_;exact End.mk [] (h4:=⟨rfl,rfl⟩)
  refine RW.gE aa cz ?_;refine SW.an rfl (SW.skip (SW.seq (SW.gM al Zm aa cz ?_)));refine SW.ret ?_;have hF:Go.Sl.Form m o:=⟨by simp at b1;omega,hpos,by simp at b3;omega,by simp at b4;omega,by simp at b5;omega,by simp at b6;omega,hk8,b8,hfar,λ h=>by omega,λ _=>g1,λ _=>g2,λ _=>g3,(λ h=>by have:=decide_eq_true h;rw[b118] at this;cases this),(λ h=>by have:=decide_eq_true h;rw[b116] at this;cases this),λ _=>⟨by simp at q0;omega,by simp at q1;omega⟩,by simp at p1;omega,(λ h=>by have:=decide_eq_true h;rw[b108] at this;cases this)⟩;have hV:iD (m:Int) o=0:=fh.2 ⟨by omega,by omega,hF⟩;rw[hV];exact End.mk [] (h4:=⟨rfl,rfl⟩)
 .have hK:aZ o.kind=[99,97,118]:=by first|(rw[hkd];rfl)|(rcases hkd with h|h<;>rw[h]<;>rfl)
  have b99:decide (99∈aZ o.kind)=true:=by rw[hK];decide
  have i99:=av (aZ o.kind) h0s 99;rw[b99] at i99;have b97:decide (97∈aZ o.kind)=true:=by rw[hK];decide
  have i97:=av (aZ o.kind) h0s 97;rw[b97] at i97;have b118:decide (118∈aZ o.kind)=true:=by rw[hK];decide
  have i118:=av (aZ o.kind) h0s 118;rw[b118] at i118;have b116:decide (116∈aZ o.kind)=false:=by rw[hK];decide
  have i116:=av (aZ o.kind) h0s 116;rw[b116] at i116;have b113:decide (113∈aZ o.kind)=false:=by rw[hK];decide
  have i113:=av (aZ o.kind) h0s 113;rw[b113] at i113;have b108:decide (108∈aZ o.kind)=false:=by rw[hK];decide
  have i108:=av (aZ o.kind) h0s 108;rw[b108] at i108;have k0:((o.kind:Int) == 0)=false:=by simp;omega
  have k1:((o.kind:Int) != 0)=true:=by simp;omega
  refine SW.seq (SW.seq ?_);have cz:=Zq v1 (Zq v2 (Zq v3 (Zq v4 (Zq vl (Zq i99 (Zq i97 (Zq i118 (Zq i116 (Zq i113 (Zq i108 True.intro))))))))));refine SW.gB al Zm (Zq k0 k1) cz ?_;rcases g1:o.dep.aU o.aK with _|_
  .rw[aF hn (λ h=>by have h:Go.Sl.Form m o:=h;exact by have:=h.aK (by omega);rw[g1] at this;cases this)]
   refine RW.gE (Zq k0 k1) cz ?_;refine SW.ai rfl (SW.seq (SW.gM al Zm aa cz ?_));refine SW.ret ?_;exact End.mk [] (h4:=⟨rfl,rfl⟩)
  refine RW.gG (Zq k0 k1) cz ?_;rcases g2:o.dep.aU o.aP with _|_
  .rw[aF hn (λ h=>by have h:Go.Sl.Form m o:=h;exact by have:=h.aP (of_decide_eq_true b99);rw[g2] at this;cases this)]
   refine RW.gE (Zq k0 k1) cz ?_;refine SW.ai rfl (SW.seq (SW.gM al Zm aa cz ?_));refine SW.ret ?_;exact End.mk [] (h4:=⟨rfl,rfl⟩)
  refine RW.gG (Zq k0 k1) cz ?_;rcases g3:o.dep.aU o.at_ with _|_
  .rw[aF hn (λ h=>by have h:Go.Sl.Form m o:=h;exact by have:=h.at_ (of_decide_eq_true b97);rw[g3] at this;cases this)]
   refine RW.gE (Zq k0 k1) cz ?_;refine SW.ai rfl (SW.seq (SW.gM al Zm aa cz ?_));refine SW.ret ?_;exact End.mk [] (h4:=⟨rfl,rfl⟩)
  refine RW.gG (Zq k0 k1) cz ?_;rcases g4:o.dep.aU o.jA with _|_
  .rw[aF hn (λ h=>by have h:Go.Sl.Form m o:=h;exact by have:=h.jA (of_decide_eq_true b118);rw[g4] at this;cases this)]
   refine RW.gE (Zq k0 k1) cz ?_;refine SW.ai rfl (SW.seq (SW.gM al Zm aa cz ?_));refine SW.ret ?_;exact End.mk [] (h4:=⟨rfl,rfl⟩)
  refine RW.gE (Zq k0 k1) cz ?_;refine SW.an rfl (SW.skip (SW.seq (SW.seq (SW.gB al Zm aa cz ?_))));rcases p1:decide ((o.ff:Int)>16777215) with _|_
  rotate_left
  .rw[aF hn (λ h=>by have h:Go.Sl.Form m o:=h;exact absurd h.ff (by simp at p1;omega))]
   refine RW.gE aa cz ?_;refine SW.ai rfl (SW.seq (SW.gM al Zm aa cz ?_));refine SW.ret ?_;exact End.mk [] (h4:=⟨rfl,rfl⟩)
  refine RW.gE aa cz ?_;refine SW.an rfl (SW.skip (SW.seq (SW.gM al Zm aa cz ?_)));refine SW.ret ?_;have hF:Go.Sl.Form m o:=⟨by simp at b1;omega,hpos,by simp at b3;omega,by simp at b4;omega,by simp at b5;omega,by simp at b6;omega,hk8,b8,hfar,λ h=>by omega,λ _=>g1,λ _=>g2,λ _=>g3,λ _=>g4,(λ h=>by have:=decide_eq_true h;rw[b116] at this;cases this),(λ h=>by have:=decide_eq_true h;rw[b113] at this;cases this),by simp at p1;omega,(λ h=>by have:=decide_eq_true h;rw[b108] at this;cases this)⟩;have hV:iD (m:Int) o=0:=fh.2 ⟨by omega,by omega,hF⟩;rw[hV];exact End.mk [] (h4:=⟨rfl,rfl⟩)
 .have hK:aZ o.kind=[99,108]:=by first|(rw[hkd];rfl)|(rcases hkd with h|h<;>rw[h]<;>rfl)
  have b99:decide (99∈aZ o.kind)=true:=by rw[hK];decide
  have i99:=av (aZ o.kind) h0s 99;rw[b99] at i99;have b97:decide (97∈aZ o.kind)=false:=by rw[hK];decide
  have i97:=av (aZ o.kind) h0s 97;rw[b97] at i97;have b118:decide (118∈aZ o.kind)=false:=by rw[hK];decide
  have i118:=av (aZ o.kind) h0s 118;rw[b118] at i118;have b116:decide (116∈aZ o.kind)=false:=by rw[hK];decide
  have i116:=av (aZ o.kind) h0s 116;rw[b116] at i116;have b113:decide (113∈aZ o.kind)=false:=by rw[hK];decide
  have i113:=av (aZ o.kind) h0s 113;rw[b113] at i113;have b108:decide (108∈aZ o.kind)=true:=by rw[hK];decide
  have i108:=av (aZ o.kind) h0s 108;rw[b108] at i108;have k0:((o.kind:Int) == 0)=false:=by simp;omega
  have k1:((o.kind:Int) != 0)=true:=by simp;omega
  refine SW.seq (SW.seq ?_);have cz:=Zq v1 (Zq v2 (Zq v3 (Zq v4 (Zq vl (Zq i99 (Zq i97 (Zq i118 (Zq i116 (Zq i113 (Zq i108 True.intro))))))))));refine SW.gB al Zm (Zq k0 k1) cz ?_;rcases g1:o.dep.aU o.aK with _|_
  .rw[aF hn (λ h=>by have h:Go.Sl.Form m o:=h;exact by have:=h.aK (by omega);rw[g1] at this;cases this)]
   refine RW.gE (Zq k0 k1) cz ?_;refine SW.ai rfl (SW.seq (SW.gM al Zm aa cz ?_));refine SW.ret ?_;exact End.mk [] (h4:=⟨rfl,rfl⟩)
  refine RW.gG (Zq k0 k1) cz ?_;rcases g2:o.dep.aU o.aP with _|_
  .rw[aF hn (λ h=>by have h:Go.Sl.Form m o:=h;exact by have:=h.aP (of_decide_eq_true b99);rw[g2] at this;cases this)]
   refine RW.gE (Zq k0 k1) cz ?_;refine SW.ai rfl (SW.seq (SW.gM al Zm aa cz ?_));refine SW.ret ?_;exact End.mk [] (h4:=⟨rfl,rfl⟩)
  refine RW.gE (Zq k0 k1) cz ?_;refine SW.an rfl (SW.skip (SW.seq (SW.seq (SW.gB al Zm aa cz ?_))));rcases p1:decide ((o.ff:Int)>16777215) with _|_
  rotate_left
  .rw[aF hn (λ h=>by have h:Go.Sl.Form m o:=h;exact absurd h.ff (by simp at p1;omega))]
   refine RW.gE aa cz ?_;refine SW.ai rfl (SW.seq (SW.gM al Zm aa cz ?_));refine SW.ret ?_;exact End.mk [] (h4:=⟨rfl,rfl⟩)
  refine RW.gG aa cz ?_;rcases l1:kf o o.cl with _|_
  .rw[aF hn (λ h=>by have h:Go.Sl.Form m o:=h;exact by have:=h.lines (of_decide_eq_true b108);rw[l1] at this;cases this)]
   refine RW.gE aa cz ?_;refine SW.ai rfl (SW.seq (SW.gM al Zm aa cz ?_));refine SW.ret ?_;exact End.mk [] (h4:=⟨rfl,rfl⟩)
  refine RW.gE aa cz ?_;refine SW.an rfl (SW.skip (SW.seq (SW.gM al Zm aa cz ?_)));refine SW.ret ?_;have hF:Go.Sl.Form m o:=⟨by simp at b1;omega,hpos,by simp at b3;omega,by simp at b4;omega,by simp at b5;omega,by simp at b6;omega,hk8,b8,hfar,λ h=>by omega,λ _=>g1,λ _=>g2,(λ h=>by have:=decide_eq_true h;rw[b97] at this;cases this),(λ h=>by have:=decide_eq_true h;rw[b118] at this;cases this),(λ h=>by have:=decide_eq_true h;rw[b116] at this;cases this),(λ h=>by have:=decide_eq_true h;rw[b113] at this;cases this),by simp at p1;omega,λ _=>l1⟩;have hV:iD (m:Int) o=0:=fh.2 ⟨by omega,by omega,hF⟩;rw[hV];exact End.mk [] (h4:=⟨rfl,rfl⟩)
theorem Ia (o:ag)(n:Int)(hd:o.dot.wf)(hk:o.kind<256)(hl:o.mC)(k:Nat):aH Tryz.prog ref05_Check.f [.agg o.cells,.d (.int .i64 n)] [] k 0 (.d (.int .i64 (iD n o))) []:=(H_ o n hd hk hl).sc rfl k
end Go.Proofs.YtaelhkkjgfobhaaGreat
namespace Go.Proofs.YtaelhkkjgfobhaaGreat
open Go.Sl Go.Proofs
section
attribute [local irreducible] SW RW aH SC aj ak
theorem qi {l:List ag}{i:Nat}{x:ag}(h:l[i]? =some x):(List.map SV.d (l.flatMap ag.ds))[i*29+10]? =some (.d (.int .u64 x.time)):=by rw[vB h (by omega)];rfl
theorem tJ {l:List ag}{i:Nat}{x:ag}(h:l[i]? =some x):List.take 8 (List.drop (i*29+2) (List.map SV.d (l.flatMap ag.ds)))=x.dep.cells:=by rw[CW h (by omega)];rfl
theorem ni {l:List ag}{i:Nat}{x:ag}(h:l[i]? =some x):(i*29+2+8<=(List.map SV.d (l.flatMap ag.ds)).length)=True:=Jl h (by omega)
theorem Cj (a b:ay):Go.Sl.Pure Tryz.prog ref04_Above.f [.agg a.cells,.agg b.cells] (bl (a.above b)):=by
 refine ref04_Above.enter (by first|rfl|simp[SV.ok,SV.ax]) (by first|rfl|simp[Hp.ok,Ob.ok,SV.ok,SV.ax,ay.ah]) (by simp) ?_;dsimp only[ref04_Above.s,Co.M,Co.J,Co.F,Co.Z,Co.B,Co.T,Co.x,Co.Y,Co.V,Co.S];refine SW.seq (SW.g0 fY Zm aa ?_);refine SW.seq (SW.seq (SW.g0 fY Zm aa ?_));refine SW.block (SW.j6 (α:={i:Nat // i<=8/\∀ r,r<i->b.get r<=a.get r}) (λ i=>⟨[(5,i64 i.1),(2,.ptr 0 0),(3,.ptr 1 0)],[(0,.box 39 a.cells),(1,.box 39 b.cells)],2⟩) (λ i=>8 - i.1) ⟨0,by omega,by omega⟩ id aa (round:= ?_));rintro⟨i,hi,hs⟩
 by_cases h:i<8
 .have h1:decide ((i:Int)<8)=true:=by simp;omega
  have e2:IntKind.i64.wrap ((i:Int)+1)=((i+1:Nat):Int):=wrap_i64 _ (by omega);rcases hc:decide (((a.get i:Nat):Int)<((b.get i:Nat):Int)) with _|_
  ·(repeat (first|refine SW.seq ?_|refine SW.block ?_|refine SW.g0 fY Zm (Zq h1 (Zq (a.eE h) (Zq (b.eE h) (Zq hc e2)))) ?_|refine SW.skip ?_|refine SW.exit ?_|refine SW.ret ?_|refine SW.ai rfl ?_|refine SW.an rfl ?_))
   dsimp only;exact⟨⟨i+1,by omega,λ r hr=>by
    by_cases hri:r=i
    .subst hri;simp at hc;omega
    .exact hs r (by omega)⟩,id,by show 8 - (i+1)<_;omega,aG.mk aa⟩
  ·(repeat (first|refine SW.seq ?_|refine SW.block ?_|refine SW.g0 fY Zm (Zq h1 (Zq (a.eE h) (Zq (b.eE h) (hc)))) ?_|refine SW.skip ?_|refine SW.exit ?_|refine SW.ret ?_|refine SW.ai rfl ?_|refine SW.an rfl ?_))
   have:a.above b=false:=by
    cases hab:a.above b with
    | false=>rfl
    | true=>have:=ay.ir.1 hab i h;simp at hc;omega
   exact End.mk [] (h4:=⟨by rw[this];rfl,rfl⟩)
 .have h1:decide ((i:Int)<8)=false:=by simp;omega
  have:a.above b=true:=ay.ir.2 λ r hr=>hs r (by omega)
  (repeat (first|refine SW.seq ?_|refine SW.block ?_|refine SW.g0 fY Zm h1 ?_|refine SW.skip ?_|refine SW.exit ?_|refine SW.ret ?_|refine SW.ai rfl ?_|refine SW.an rfl ?_));exact End.mk [] (h4:=⟨by rw[this];rfl,rfl⟩)
theorem wN (a b:ay)(k:Nat):aH Tryz.prog ref04_Above.f [.agg a.cells,.agg b.cells] [] k 0 (bl (a.above b)) []:=(Cj a b).sc rfl k
open Classical in
noncomputable def zA (l:List ag)(o:ag):Bool:=decide (tW l o)
open Classical in
theorem qj {l:List ag}{o:ag}(h: ¬ tW l o):zA l o=false:=decide_eq_false h
open Classical in
theorem sy {l:List ag}{o:ag}:zA l o=true↔tW l o:=decide_eq_true_iff
set_option maxHeartbeats 4000000 in
theorem M8 (l:List ag)(hl:l.length<=9223372036854775807)(o:ag)(hd:o.dot.wf):Go.Sl.Pure Tryz.prog ref10_one.f [ops l,.agg o.cells] (bl (zA l o)):=by
  have hd2:o.dot.n<4294967296:=hd.2;refine ref10_one.enter (by first|rfl|simp[SV.ok,SV.ax]) (by first|rfl|simp[Hp.ok,Ob.ok,SV.ok,SV.ax,ay.ah]) (by simp) ?_;dsimp only[ref10_one.s,Co.M,Co.G,Co.J,Co.H,Co.F,Co.C,Co.Z,Co.B,Co.b8,Co.aB,Co.T,Co.K,Co.L,Co.Q,Co.x,Co.Y,Co.V,Co.U,Co.D,Co.I,Co.S];refine SW.seq (SW.g0 aw Zm aa ?_);have t1:=sx l hl o.dot;have t2:∀ k,aH Tryz.prog ref10_there.f [ops l,.agg [u8 o.dot.r,u32 (o.dot.n - 1)]] [] k 0 (.d (.int .i64 ((gY l ⟨o.dot.r,o.dot.n - 1⟩:Nat):Int))) []:=sx l hl ⟨o.dot.r,o.dot.n - 1⟩;have cz:=Zq t1 (Zq t2 True.intro);refine SW.seq (SW.seq (SW.gB aw Zm aa cz ?_));rcases a1:(((gY l o.dot:Nat):Int) != 1) with _|_
  rotate_left
  . rw[qj λ h=>by have:=h.self;simp at a1;omega]
    refine RW.gE aa cz ?_;refine SW.ai rfl (SW.seq (SW.g2 aw Zm aa t1 t2 ?_));refine SW.ret ?_;exact End.mk [] (h4:=⟨rfl,rfl⟩)
  refine RW.gG aa cz ?_;have hself:gY l o.dot=1:=by simp at a1;omega
  rcases a2:decide ((o.dot.n:Int)>1) with _|_
  . have hprev:1<o.dot.n->gY l ⟨o.dot.r,o.dot.n - 1⟩=1:=λ h=>by simp at a2;omega
    refine RW.gE aa cz ?_;refine SW.an rfl (SW.skip (SW.seq (SW.seq (SW.g2 aw Zm aa t1 t2 ?_))));refine SW.block (SW.j6 (α:={i:Nat // i<=8/\∀ r,r<i->0<o.dep.get r->gY l ⟨r,o.dep.get r⟩=1}) (λ i=>⟨[(5,i64 i.1),(3,.ptr 0 0),(0,ops l)],[(0,.box 43 o.cells)],1⟩) (λ i=>8 - i.1) ⟨0,by omega,by omega⟩ id aa (round:= ?_));rintro⟨i,hi,hs⟩
    by_cases h:i<8
    . have h1:decide ((i:Int)<8)=true:=by simp;omega
      have e2:IntKind.i64.wrap ((i:Int)+1)=((i+1:Nat):Int):=wrap_i64 _ (by omega);have e4:IntKind.u8.wrap (i:Int)=(i:Int):=wrap_u8' _ (by omega);have t3:∀ k,aH Tryz.prog ref10_there.f [ops l,.agg [u8 i,u32 (o.dep.get i)]] [] k 0 (.d (.int .i64 ((gY l ⟨i,o.dep.get i⟩:Nat):Int))) []:=sx l hl ⟨i,o.dep.get i⟩;have cz:=Zq t3 True.intro;refine SW.seq (SW.seq (SW.g1 aw Zm h1 t3 ?_));refine SW.ai rfl (SW.skip (SW.seq (SW.block (SW.seq ?_))));rcases c1:decide ((o.dep.get i:Int)>0) with _|_
      . refine SW.g1 aw Zm (Zq (jW o h) (Zq c1 e4)) t3 ?_
        refine SW.an rfl (SW.skip ?_);refine SW.g1 aw Zm e2 t3 ?_;dsimp only;exact⟨⟨i+1,by omega,λ r hr hp=>by
          by_cases hri:r=i
          . subst hri;simp at c1;omega
          . exact hs r (by omega) hp⟩,id,by show 8 - (i+1)<_;omega,aG.mk aa⟩
      . rcases c2:(((gY l ⟨i,o.dep.get i⟩:Nat):Int) != 1) with _|_
        . refine SW.g1 aw Zm (Zq (jW o h) (Zq c1 (Zq c2 e4))) t3 ?_
          refine SW.an rfl (SW.skip ?_);refine SW.g1 aw Zm e2 t3 ?_;dsimp only;exact⟨⟨i+1,by omega,λ r hr hp=>by
            by_cases hri:r=i
            . subst hri;simp at c2;omega
            . exact hs r (by omega) hp⟩,id,by show 8 - (i+1)<_;omega,aG.mk aa⟩
        . rw[qj λ h'=>by have:=h'.deps i h (by simp at c1;omega);simp at c2;omega]
          refine SW.g1 aw Zm (Zq (jW o h) (Zq c1 (Zq c2 e4))) t3 ?_;refine SW.ai rfl (SW.seq (SW.g1 aw Zm aa t3 ?_));refine SW.ret ?_;exact End.mk [] (h4:=⟨rfl,rfl⟩)
    have h1:decide ((i:Int)<8)=false:=by simp;omega
    have hdeps:∀ r,r<8->0<o.dep.get r->gY l ⟨r,o.dep.get r⟩=1:=λ r h1 h2=>hs r (by omega) h2
    refine SW.seq (SW.seq (SW.g0 aw Zm h1 ?_));refine SW.an rfl (SW.exit (SW.seq (SW.seq (SW.g0 aw Zm aa ?_))));refine SW.block (SW.j6 (α:={i:Nat // i<=l.length/\∀ j x,j<i->l[j]? =some x->x.before o=true->x.time<o.time/\o.dep.above x.dep=true}) (λ i=>⟨[(6,i64 i.1),(3,.ptr 0 0),(0,ops l)],[(0,.box 43 o.cells)],1⟩) (λ i=>l.length - i.1) ⟨0,by omega,by omega⟩ id aa (round:= ?_));rintro⟨i,hi,hs⟩
    by_cases h:i<l.length
    . have h1:decide ((i:Int)<l.length)=true:=by simp;exact h
      have e2:IntKind.i64.wrap ((i:Int)+1)=((i+1:Nat):Int):=wrap_i64 _ (by omega);obtain⟨x,hx⟩:=aX h;have rb:=vQ x o;have ra:=wN o.dep x.dep;refine SW.seq (SW.seq (SW.g0 aw Zm h1 ?_));refine SW.ai rfl (SW.skip (SW.seq (SW.block (SW.seq ?_))));have good:((x.before o=true->x.time<o.time/\o.dep.above x.dep=true))->∀ j y,j<i+1->l[j]? =some y->y.before o=true->y.time<o.time/\o.dep.above y.dep=true:=λ hg j y hj hy=>by
        by_cases hji:j=i
        . subst hji;rw[hx] at hy;injection hy with hy;subst hy;exact hg
        . exact hs j y (by omega) hy
      have bad: ¬ (x.before o=true->x.time<o.time/\o.dep.above x.dep=true)->zA l o=false:=λ hb=>qj λ h'=>hb (h'.uL x (List.mem_of_getElem? hx))
      rcases g1:x.before o with _|_<;>rw[g1] at rb
      . 
        have cz:=Zq rb True.intro;refine SW.g1 aw Zm (Zq (gW hx) (cF hx)) rb ?_;refine SW.an rfl (SW.skip (SW.g1 aw Zm e2 rb ?_));dsimp only;exact⟨⟨i+1,by omega,good (λ h=>by rw[g1] at h;cases h)⟩,id,by show l.length - (i+1)<_;omega,aG.mk aa⟩
      rcases g2:decide ((x.time:Int)>=o.time) with _|_
      rotate_left
      . rw[bad λ h'=>by have:=(h' g1).1;simp at g2;omega]
        refine SW.g1 aw Zm (Zq (gW hx) (Zq (cF hx) (Zq (qi hx) (Zq (tJ hx) (Zq (ni hx) (g2)))))) rb ?_;refine SW.ai rfl (SW.seq (SW.g1 aw Zm aa rb ?_));refine SW.ret ?_;exact End.mk [] (h4:=⟨rfl,rfl⟩)
      rcases g3:o.dep.above x.dep with _|_<;>rw[g3] at ra
      . rw[bad λ h'=>by have:=(h' g1).2;rw[g3] at this;cases this]
        have cz:=Zq rb (Zq ra True.intro);refine SW.g2 aw Zm (Zq (gW hx) (Zq (cF hx) (Zq (qi hx) (Zq (tJ hx) (Zq (ni hx) (g2)))))) rb ra ?_;refine SW.ai rfl (SW.seq (SW.g2 aw Zm aa rb ra ?_));refine SW.ret ?_;exact End.mk [] (h4:=⟨rfl,rfl⟩)
      . refine SW.g2 aw Zm (Zq (gW hx) (Zq (cF hx) (Zq (qi hx) (Zq (tJ hx) (Zq (ni hx) (g2)))))) rb ra ?_
        refine SW.an rfl (SW.skip (SW.g2 aw Zm e2 rb ra ?_));dsimp only;exact⟨⟨i+1,by omega,good (λ _=>⟨by simp at g2;omega,g3⟩)⟩,id,by show l.length - (i+1)<_;omega,aG.mk aa⟩
    have h1:decide ((i:Int)<l.length)=false:=by simp;omega
    have hone:zA l o=true:=sy.2 ⟨hself,hprev,hdeps,λ a ha hb=>by
      obtain⟨j,hj⟩:=List.mem_iff_getElem?.1 ha;exact hs j a (by have:=cU hj;omega) hj hb⟩
    rw[hone];(repeat (first|refine SW.seq ?_|refine SW.block ?_|refine SW.g0 aw Zm h1 ?_|refine SW.skip ?_|refine SW.exit ?_|refine SW.ret ?_|refine SW.ai rfl ?_|refine SW.an rfl ?_));exact End.mk [] (h4:=⟨rfl,rfl⟩)
  . have e3 :IntKind.u32.wrap ((o.dot.n:Int) - 1)=((o.dot.n - 1:Nat):Int):=by simp at a2;rw[wrap_u32' _ (by omega)];omega
    have cz:=Zq t1 (Zq t2 True.intro);refine RW.gG e3 cz ?_;rcases a3:(((gY l ⟨o.dot.r,o.dot.n - 1⟩:Nat):Int) != 1) with _|_
    rotate_left
    . rw[qj λ h=>by have:=h.prev (by simp at a2;omega);simp at a3;omega]
      refine RW.gE aa cz ?_;refine SW.ai rfl (SW.seq (SW.g2 aw Zm aa t1 t2 ?_));refine SW.ret ?_;exact End.mk [] (h4:=⟨rfl,rfl⟩)
    have hprev:1<o.dot.n->gY l ⟨o.dot.r,o.dot.n - 1⟩=1:=λ h=>by simp at a3;omega
    refine RW.gE aa cz ?_;refine SW.an rfl (SW.skip (SW.seq (SW.seq (SW.g2 aw Zm aa t1 t2 ?_))));refine SW.block (SW.j6 (α:={i:Nat // i<=8/\∀ r,r<i->0<o.dep.get r->gY l ⟨r,o.dep.get r⟩=1}) (λ i=>⟨[(5,i64 i.1),(3,.ptr 0 0),(0,ops l)],[(0,.box 43 o.cells)],1⟩) (λ i=>8 - i.1) ⟨0,by omega,by omega⟩ id aa (round:= ?_));rintro⟨i,hi,hs⟩
    by_cases h:i<8
    . have h1:decide ((i:Int)<8)=true:=by simp;omega
      have e2:IntKind.i64.wrap ((i:Int)+1)=((i+1:Nat):Int):=wrap_i64 _ (by omega);have e4:IntKind.u8.wrap (i:Int)=(i:Int):=wrap_u8' _ (by omega);have t3:∀ k,aH Tryz.prog ref10_there.f [ops l,.agg [u8 i,u32 (o.dep.get i)]] [] k 0 (.d (.int .i64 ((gY l ⟨i,o.dep.get i⟩:Nat):Int))) []:=sx l hl ⟨i,o.dep.get i⟩;have cz:=Zq t3 True.intro;refine SW.seq (SW.seq (SW.g1 aw Zm h1 t3 ?_));refine SW.ai rfl (SW.skip (SW.seq (SW.block (SW.seq ?_))));rcases c1:decide ((o.dep.get i:Int)>0) with _|_
      . refine SW.g1 aw Zm (Zq (jW o h) (Zq c1 e4)) t3 ?_
        refine SW.an rfl (SW.skip ?_);refine SW.g1 aw Zm e2 t3 ?_;dsimp only;exact⟨⟨i+1,by omega,λ r hr hp=>by
          by_cases hri:r=i
          . subst hri;simp at c1;omega
          . exact hs r (by omega) hp⟩,id,by show 8 - (i+1)<_;omega,aG.mk aa⟩
      . rcases c2:(((gY l ⟨i,o.dep.get i⟩:Nat):Int) != 1) with _|_
        . refine SW.g1 aw Zm (Zq (jW o h) (Zq c1 (Zq c2 e4))) t3 ?_
          refine SW.an rfl (SW.skip ?_);refine SW.g1 aw Zm e2 t3 ?_;dsimp only;exact⟨⟨i+1,by omega,λ r hr hp=>by
            by_cases hri:r=i
            . subst hri;simp at c2;omega
            . exact hs r (by omega) hp⟩,id,by show 8 - (i+1)<_;omega,aG.mk aa⟩
        . rw[qj λ h'=>by have:=h'.deps i h (by simp at c1;omega);simp at c2;omega]
          refine SW.g1 aw Zm (Zq (jW o h) (Zq c1 (Zq c2 e4))) t3 ?_;refine SW.ai rfl (SW.seq (SW.g1 aw Zm aa t3 ?_));refine SW.ret ?_;exact End.mk [] (h4:=⟨rfl,rfl⟩)
    have h1:decide ((i:Int)<8)=false:=by simp;omega
    have hdeps:∀ r,r<8->0<o.dep.get r->gY l ⟨r,o.dep.get r⟩=1:=λ r h1 h2=>hs r (by omega) h2
    refine SW.seq (SW.seq (SW.g0 aw Zm h1 ?_));refine SW.an rfl (SW.exit (SW.seq (SW.seq (SW.g0 aw Zm aa ?_))));refine SW.block (SW.j6 (α:={i:Nat // i<=l.length/\∀ j x,j<i->l[j]? =some x->x.before o=true->x.time<o.time/\o.dep.above x.dep=true}) (λ i=>⟨[(6,i64 i.1),(3,.ptr 0 0),(0,ops l)],[(0,.box 43 o.cells)],1⟩) (λ i=>l.length - i.1) ⟨0,by omega,by omega⟩ id aa (round:= ?_));rintro⟨i,hi,hs⟩
    by_cases h:i<l.length
    . have h1:decide ((i:Int)<l.length)=true:=by simp;exact h
      have e2:IntKind.i64.wrap ((i:Int)+1)=((i+1:Nat):Int):=wrap_i64 _ (by omega);obtain⟨x,hx⟩:=aX h;have rb:=vQ x o;have ra:=wN o.dep x.dep;refine SW.seq (SW.seq (SW.g0 aw Zm h1 ?_));refine SW.ai rfl (SW.skip (SW.seq (SW.block (SW.seq ?_))));have good:((x.before o=true->x.time<o.time/\o.dep.above x.dep=true))->∀ j y,j<i+1->l[j]? =some y->y.before o=true->y.time<o.time/\o.dep.above y.dep=true:=λ hg j y hj hy=>by
        by_cases hji:j=i
        . subst hji;rw[hx] at hy;injection hy with hy;subst hy;exact hg
        . exact hs j y (by omega) hy
      have bad: ¬ (x.before o=true->x.time<o.time/\o.dep.above x.dep=true)->zA l o=false:=λ hb=>qj λ h'=>hb (h'.uL x (List.mem_of_getElem? hx))
      rcases g1:x.before o with _|_<;>rw[g1] at rb
      . 
        have cz:=Zq rb True.intro;refine SW.g1 aw Zm (Zq (gW hx) (cF hx)) rb ?_;refine SW.an rfl (SW.skip (SW.g1 aw Zm e2 rb ?_));dsimp only;exact⟨⟨i+1,by omega,good (λ h=>by rw[g1] at h;cases h)⟩,id,by show l.length - (i+1)<_;omega,aG.mk aa⟩
      rcases g2:decide ((x.time:Int)>=o.time) with _|_
      rotate_left
      . rw[bad λ h'=>by have:=(h' g1).1;simp at g2;omega]
        refine SW.g1 aw Zm (Zq (gW hx) (Zq (cF hx) (Zq (qi hx) (Zq (tJ hx) (Zq (ni hx) (g2)))))) rb ?_;refine SW.ai rfl (SW.seq (SW.g1 aw Zm aa rb ?_));refine SW.ret ?_;exact End.mk [] (h4:=⟨rfl,rfl⟩)
      rcases g3:o.dep.above x.dep with _|_<;>rw[g3] at ra
      . rw[bad λ h'=>by have:=(h' g1).2;rw[g3] at this;cases this]
        have cz:=Zq rb (Zq ra True.intro);refine SW.g2 aw Zm (Zq (gW hx) (Zq (cF hx) (Zq (qi hx) (Zq (tJ hx) (Zq (ni hx) (g2)))))) rb ra ?_;refine SW.ai rfl (SW.seq (SW.g2 aw Zm aa rb ra ?_));refine SW.ret ?_;exact End.mk [] (h4:=⟨rfl,rfl⟩)
      . refine SW.g2 aw Zm (Zq (gW hx) (Zq (cF hx) (Zq (qi hx) (Zq (tJ hx) (Zq (ni hx) (g2)))))) rb ra ?_
        refine SW.an rfl (SW.skip (SW.g2 aw Zm e2 rb ra ?_));dsimp only;exact⟨⟨i+1,by omega,good (λ _=>⟨by simp at g2;omega,g3⟩)⟩,id,by show l.length - (i+1)<_;omega,aG.mk aa⟩
    have h1:decide ((i:Int)<l.length)=false:=by simp;omega
    have hone:zA l o=true:=sy.2 ⟨hself,hprev,hdeps,λ a ha hb=>by
      obtain⟨j,hj⟩:=List.mem_iff_getElem?.1 ha;exact hs j a (by have:=cU hj;omega) hj hb⟩
    rw[hone];(repeat (first|refine SW.seq ?_|refine SW.block ?_|refine SW.g0 aw Zm h1 ?_|refine SW.skip ?_|refine SW.exit ?_|refine SW.ret ?_|refine SW.ai rfl ?_|refine SW.an rfl ?_));exact End.mk [] (h4:=⟨rfl,rfl⟩)
theorem vG (l:List ag)(hl:l.length<=9223372036854775807)(o:ag)(hd:o.dot.wf)(k:Nat):aH Tryz.prog ref10_one.f [ops l,.agg o.cells] [] k 0 (bl (zA l o)) []:=(M8 l hl o hd).sc rfl k
end
section
attribute [local irreducible] SW RW aH SC aj ak
theorem yx {n:Int}{l:List ag}(h:n<1\/8<n):mR n l=2:=by unfold mR;rw[if_pos h]
theorem Ck {n:Int}{l:List ag}(h: ¬ (n<1\/8<n))(hf: ¬ ∀ o,o∈l->Go.Sl.Form n.toNat o):mR n l=5:=by unfold mR;rw[if_neg h,if_neg hf]
theorem Cl {n:Int}{l:List ag}(h: ¬ (n<1\/8<n))(hf:∀ o,o∈l->Go.Sl.Form n.toNat o)(ho: ¬ ∀ o,o∈l->tW l o):mR n l=9:=by unfold mR;rw[if_neg h,if_pos hf,if_neg ho]
set_option maxHeartbeats 4000000 in
theorem Cn (l:List ag)(hl:l.length<=9223372036854775807)(n:Int)(hd:∀ o,o∈l->o.dot.wf/\o.kind<256/\o.mC):Go.Sl.Pure Tryz.prog ref10_History.f [ops l,.d (.int .i64 n)] (.d (.int .i64 (mR n l))):=by
 refine ref10_History.enter (by first|rfl|simp[SV.ok,SV.ax]) (by first|rfl|simp[Hp.ok,Ob.ok,SV.ok,SV.ax,ay.ah]) (by simp) ?_;dsimp only[ref10_History.s,Co.M,Co.G,Co.J,Co.H,Co.F,Co.Z,Co.B,Co.K,Co.L,Co.Q,Co.Y,Co.V,Co.O,Co.I,Co.S];refine SW.seq (SW.g0 db Zm aa ?_);refine SW.seq (SW.seq (SW.gB db Zm aa True.intro ?_));rcases a1:decide (n<1) with _|_
 rotate_left
 .rw[yx (.inl (by simpa using a1))]
  refine RW.gE aa True.intro ?_;refine SW.ai rfl (SW.seq (SW.g0 db Zm aa ?_));refine SW.ret ?_;exact End.mk [] (h4:=⟨rfl,rfl⟩)
 refine RW.gG aa True.intro ?_;rcases a2:decide (n>8) with _|_
 rotate_left
 .rw[yx (.inr (by simpa using a2))]
  refine RW.gE aa True.intro ?_;refine SW.ai rfl (SW.seq (SW.g0 db Zm aa ?_));refine SW.ret ?_;exact End.mk [] (h4:=⟨rfl,rfl⟩)
 refine RW.gE aa True.intro ?_;refine SW.an rfl (SW.skip ?_);have hn: ¬ (n<1\/8<n):=by simp at a1 a2;omega
 refine SW.seq (SW.seq (SW.g0 db Zm aa ?_));refine SW.block (SW.j6 (α:={i:Nat // i<=l.length/\∀ j x,j<i->l[j]? =some x->Go.Sl.Form n.toNat x}) (λ i=>⟨[(5,i64 i.1),(0,ops l),(1,.d (.int .i64 n))],[],0⟩) (λ i=>l.length - i.1) ⟨0,by omega,by omega⟩ id aa (round:= ?_));rintro⟨i,hi,hs⟩
 by_cases h:i<l.length
 .have h1:decide ((i:Int)<l.length)=true:=by simp;exact h
  have e2:IntKind.i64.wrap ((i:Int)+1)=((i+1:Nat):Int):=wrap_i64 _ (by omega);obtain⟨x,hx⟩:=aX h;have hdx:=hd x (List.mem_of_getElem? hx);have ck:=Ia x n hdx.1 hdx.2.1 hdx.2.2;refine SW.seq (SW.seq (SW.g0 db Zm h1 ?_));refine SW.ai rfl (SW.skip (SW.seq (SW.block (SW.seq ?_))));rcases c1:(iD n x != 0) with _|_
  .have hF:Go.Sl.Form n.toNat x:=(fh.1 (by simpa using c1)).2.2
   have cz:=Zq ck True.intro;refine SW.g1 db Zm (Zq (gW hx) (Zq (cF hx) (c1))) ck ?_;refine SW.an rfl (SW.skip ?_);refine SW.g1 db Zm e2 ck ?_;dsimp only;exact⟨⟨i+1,by omega,λ j y hj hy=>by
    by_cases hji:j=i
    .subst hji;rw[hx] at hy;injection hy with hy;subst hy;exact hF
    .exact hs j y (by omega) hy⟩,id,by show l.length - (i+1)<_;omega,aG.mk aa⟩
  .rw[Ck hn λ hf=>by
    have:=fh.2 ⟨by omega,by omega,hf x (List.mem_of_getElem? hx)⟩;rw[this] at c1;simp at c1]
   refine SW.g1 db Zm (Zq (gW hx) (Zq (cF hx) (c1))) ck ?_;refine SW.ai rfl (SW.seq (SW.g1 db Zm aa ck ?_));refine SW.ret ?_;exact End.mk [] (h4:=⟨rfl,rfl⟩)
 have h1:decide ((i:Int)<l.length)=false:=by simp;omega
 have hf:∀ o,o∈l->Go.Sl.Form n.toNat o:=λ o ho=>by
  obtain⟨j,hj⟩:=List.mem_iff_getElem?.1 ho;exact hs j o (by have:=cU hj;omega) hj
 refine SW.seq (SW.seq (SW.g0 db Zm h1 ?_));refine SW.an rfl (SW.exit (SW.seq (SW.seq (SW.g0 db Zm aa ?_))));refine SW.block (SW.j6 (α:={i:Nat // i<=l.length/\∀ j x,j<i->l[j]? =some x->tW l x}) (λ i=>⟨[(6,i64 i.1),(0,ops l)],[],0⟩) (λ i=>l.length - i.1) ⟨0,by omega,by omega⟩ id aa (round:= ?_));clear hs hi h h1;rintro⟨i,hi,hs⟩
 by_cases h:i<l.length
 .have h1:decide ((i:Int)<l.length)=true:=by simp;exact h
  have e2:IntKind.i64.wrap ((i:Int)+1)=((i+1:Nat):Int):=wrap_i64 _ (by omega);obtain⟨x,hx⟩:=aX h;have hdx:=hd x (List.mem_of_getElem? hx);have ck:=vG l hl x hdx.1;refine SW.seq (SW.seq (SW.g0 db Zm h1 ?_));refine SW.ai rfl (SW.skip (SW.seq (SW.block (SW.seq ?_))));rcases c1:zA l x with _|_<;>rw[c1] at ck
  .rw[Cl hn hf λ ho=>by
    have:=sy.2 (ho x (List.mem_of_getElem? hx));rw[c1] at this;cases this]
   have cz:=Zq ck True.intro;refine SW.g1 db Zm (Zq (gW hx) (cF hx)) ck ?_;refine SW.ai rfl (SW.seq (SW.g1 db Zm aa ck ?_));refine SW.ret ?_;exact End.mk [] (h4:=⟨rfl,rfl⟩)
  .refine SW.g1 db Zm (Zq (gW hx) (cF hx)) ck ?_
   refine SW.an rfl (SW.skip ?_);refine SW.g1 db Zm e2 ck ?_;dsimp only;exact⟨⟨i+1,by omega,λ j y hj hy=>by
    by_cases hji:j=i
    .subst hji;rw[hx] at hy;injection hy with hy;subst hy;exact sy.1 c1
    .exact hs j y (by omega) hy⟩,id,by show l.length - (i+1)<_;omega,aG.mk aa⟩
 have h1:decide ((i:Int)<l.length)=false:=by simp;omega
 have hV:mR n l=0:=qR.2 ⟨by omega,by omega,hf,λ o ho=>by
  obtain⟨j,hj⟩:=List.mem_iff_getElem?.1 ho;exact hs j o (by have:=cU hj;omega) hj⟩
 rw[hV];(repeat (first|refine SW.seq ?_|refine SW.block ?_|refine SW.g0 db Zm h1 ?_|refine SW.skip ?_|refine SW.exit ?_|refine SW.ret ?_|refine SW.ai rfl ?_|refine SW.an rfl ?_));exact End.mk [] (h4:=⟨rfl,rfl⟩)
theorem wO (l:List ag)(hl:l.length<=9223372036854775807)(n:Int)(hd:∀ o,o∈l->o.dot.wf/\o.kind<256/\o.mC)(k:Nat):aH Tryz.prog ref10_History.f [ops l,.d (.int .i64 n)] [] k 0 (.d (.int .i64 (mR n l))) []:=(Cn l hl n hd).sc rfl k
end
end Go.Proofs.YtaelhkkjgfobhaaGreat
