/-
 Verdicts: the head's row and its beginnings (plain).
-/
import Derived.Test.YtaelhkkjgfobhaaGreatSG
set_option linter.unusedSectionVars false
set_option linter.unusedVariables false
set_option linter.unusedSimpArgs false
namespace Go.Proofs.YtaelhkkjgfobhaaGreat
open Go.Sl Go.Proofs
section
theorem mW {l:List ag}{d:Dt}(hg:bJ l d=true)(ht:bE l d=[]):Ho l d=true/\eB l d=2:=by
 have:Ho l d=true:=by rw[Bx,ht];rfl
 exact⟨this,by unfold eB;rw[if_pos hg,if_pos this]⟩
theorem Qk:eB bp ⟨0,1⟩=2:=(mW Pt Qe).2
theorem Ql:eB bp ⟨0,2⟩=2:=(mW Pu Qf).2
theorem PX:eB bp ⟨0,3⟩=2:=(mW Pv Qg).2
theorem PY:eB bp ⟨1,1⟩=2:=(mW OK PU).2
theorem Pw:eB bp ⟨0,4⟩=1:=by
 have h5:=(mW OK PU).1;have:Ho bp ⟨0,4⟩=false:=by rw[Bx,PT];simp[h5]
 unfold eB;rw[if_pos OJ,if_neg (by rw[this];decide)]
theorem td (l:List ag):(MM.keys (dY l).m).Perm (o9 l):=
 (List.perm_ext_iff_of_nodup (pZ l).wf.keys (qG _)).2 λ d=>by rw[<- MM.ir];exact(pZ l).keys d
theorem vS (l:List ag)(d:Dt):MM.has (dY l).m d=decide (d∈o9 l):=by
 rw[Bool.eq_iff_iff,decide_eq_true_eq];exact(pZ l).keys d
theorem Qm:(dY bp).m.length=5:=by
 have h:=(td bp).length_eq;rw[Bt] at h;have h3:(MM.keys (dY bp).m).length=(dY bp).m.length:=by simp[MM.keys]
 rw[<- h3,h];rfl
theorem J' (i:Nat)(hi:i<=4):Part (bp.take i) bp:=by
 have hu:qC bp:=by unfold qC;decide
 refine⟨hu,hu.sub (List.take_sublist _ _),λ o ho=>List.mem_of_mem_take ho,λ o a ho ha hb=> ?_⟩
 match i,hi with
 | 0,_=>cases ho
 | 1,_=>
  simp only[bp,List.take,List.mem_cons,List.not_mem_nil,or_false] at ho ha ⊢;subst ho;rcases ha with rfl|rfl|rfl|rfl|rfl
  .rfl
  all_goals exact absurd hb (by decide)
 | 2,_=>
  simp only[bp,List.take,List.mem_cons,List.not_mem_nil,or_false] at ho ha ⊢;rcases ho with rfl|rfl
  all_goals (rcases ha with rfl|rfl|rfl|rfl|rfl<;>first|(exact .inl rfl)|(exact .inr rfl)|(exact absurd hb (by decide)))
 | 3,_=>
  simp only[bp,List.take,List.mem_cons,List.not_mem_nil,or_false] at ho ha ⊢;rcases ho with rfl|rfl|rfl
  all_goals (rcases ha with rfl|rfl|rfl|rfl|rfl<;>first|(exact .inl rfl)|(exact .inr (.inl rfl))|(exact .inr (.inr rfl))|(exact absurd hb (by decide)))
 | 4,_=>
  simp only[bp,List.take,List.mem_cons,List.not_mem_nil,or_false] at ho ha ⊢;rcases ho with rfl|rfl|rfl|rfl
  all_goals (rcases ha with rfl|rfl|rfl|rfl|rfl<;>first|(exact .inl rfl)|(exact .inr (.inl rfl))|(exact .inr (.inr (.inl rfl)))|(exact .inr (.inr (.inr rfl)))|(exact absurd hb (by decide)))
theorem ML {o:ag}(ho:o∈bp):fB bp o=0:=by
 simp only[bp,List.mem_cons,List.not_mem_nil,or_false] at ho;rcases ho with rfl|rfl|rfl|rfl|rfl
 .exact KV
 .exact KW
 .exact KX
 .exact KY
 .exact KZ
theorem BB {i:Nat}(hi:i<=4){o:ag}(ho:o∈bp.take i):o.kind≠2:=by
 have h4:o∈bp.take 4:=by
  have:bp.take i=(bp.take 4).take i:=by rw[List.take_take,Nat.min_eq_left hi]
  rw[this] at ho;exact List.mem_of_mem_take ho
 simp only[bp,List.take,List.mem_cons,List.not_mem_nil,or_false] at h4;rcases h4 with rfl|rfl|rfl|rfl<;>decide
theorem rZ {i:Nat}(hi:i<=4){d:Dt}(hd:d∈o9 (bp.take i)):eB (bp.take i) d=2:=by
 have hP:=J' i hi;rw[Dt.mem_set,List.mem_map] at hd;obtain⟨x,hx,rfl⟩:=hd;refine(mW ?_ ?_).2
 .rw[DP hP.IX hx,Be hP hx,ML (hP.sub x hx)];rfl
 .rw[List.eq_nil_iff_forall_not_mem]
  intro v hv;obtain⟨_,h2,h3⟩:=xO.1 hv;obtain⟨o,hf,_,e1,_⟩:=s_ h2;unfold j7 s6 at h3;rw[e1] at h3;simp only[Bool.and_eq_true,decide_eq_true_eq] at h3;exact BB hi (gd hf).1 h3.1
theorem Ka {i:Nat}{d:Dt}(hd:d∈o9 (bp.take i)):d∈o9 (bp.take (i+1)):=by
 rw[Dt.mem_set,List.mem_map] at hd ⊢;obtain⟨x,hx,rfl⟩:=hd;exact⟨x,(List.take_subset_take_left bp (Nat.le_succ i)) hx,rfl⟩
theorem filter_none {α:Type}{p:α->Bool}{l:List α}(h:∀ x,x∈l->p x=false):l.filter p=[]:=List.filter_eq_nil_iff.2 λ x hx=>by rw[h x hx];decide
theorem tf {i:Nat}(hi:i<4):qk (dY (bp.take i)) (dY (bp.take (i+1)))=[]:=by
 unfold qk;rw[filter_none,set_nil];intro d _;unfold ox;rw[vS,fU,fU]
 by_cases h:d∈o9 (bp.take i)
 .rw[rZ (by omega) h,rZ (by omega) (Ka h)];simp
 .simp[h]
theorem BC (K:KM):qk ⟨[],0⟩ K=[]:=by
 unfold qk;rw[filter_none,set_nil];intro d _;unfold ox;simp[MM.has,MM.get]
theorem DU:qk (dY (bp.take 4)) (dY bp)=[⟨0,4⟩]:=by
 unfold qk;rw[<- JS ⟨0,4⟩];refine Dt.yM λ d=> ?_
 rw[List.mem_filter,List.mem_singleton,(td bp).mem_iff,Bt];unfold ox;rw[vS,fU,fU,Bool.and_eq_true,decide_eq_true_eq,Bool.not_eq_true',decide_eq_false_iff_not];have h4:∀ e,e∈o9 (bp.take 4)↔e=⟨0,1⟩\/e=⟨0,2⟩\/e=⟨0,3⟩\/e=⟨0,4⟩:=λ e=>by
  rw[Dt.mem_set];show e∈[(⟨0,1⟩:Dt),⟨0,2⟩,⟨0,3⟩,⟨0,4⟩]↔_;simp
 constructor
 .rintro⟨_,h2,h3⟩
  rw[rZ (by omega) h2] at h3;rcases(h4 d).1 h2 with rfl|rfl|rfl|rfl
  .exact absurd Qk.symm h3
  .exact absurd Ql.symm h3
  .exact absurd PX.symm h3
  .rfl
 .rintro rfl
  have hm:(⟨0,4⟩:Dt)∈o9 (bp.take 4):=(h4 _).2 (.inr (.inr (.inr rfl)));exact⟨by simp,hm,by rw[rZ (by omega) hm,Pw];decide⟩
theorem MN:j_ (bE bp) (dY bp) ⟨0,4⟩=[⟨1,1⟩]:=by
 unfold j_;rw[PT];simp only[List.filter_cons,List.filter_nil,fU,PY,decide_true,if_true]
noncomputable def EN (i:Nat):En:=⟨bp.take i,if i=0 then ⟨[],0⟩ else dY (bp.take i),if i<=4 then wu i else Pr 4 1⟩
theorem Kb:EN 0=En.zero:=rfl
theorem Lb {i:Nat}(hi:i<=5):(EN i).kn.wf:=λ r hr=>by
 match i,hi,r,hr with
 | 0,_,0,_|0,_,1,_|0,_,2,_|0,_,3,_|0,_,4,_|0,_,5,_|0,_,6,_|0,_,7,_
 | 1,_,0,_|1,_,1,_|1,_,2,_|1,_,3,_|1,_,4,_|1,_,5,_|1,_,6,_|1,_,7,_
 | 2,_,0,_|2,_,1,_|2,_,2,_|2,_,3,_|2,_,4,_|2,_,5,_|2,_,6,_|2,_,7,_
 | 3,_,0,_|3,_,1,_|3,_,2,_|3,_,3,_|3,_,4,_|3,_,5,_|3,_,6,_|3,_,7,_
 | 4,_,0,_|4,_,1,_|4,_,2,_|4,_,3,_|4,_,4,_|4,_,5,_|4,_,6,_|4,_,7,_
 | 5,_,0,_|5,_,1,_|5,_,2,_|5,_,3,_|5,_,4,_|5,_,5,_|5,_,6,_|5,_,7,_=>show _<_;decide
theorem Kc {i:Nat}(hi:i<5):∃ x,bp[i]? =some x/\x∈bp/\x.dot.wf/\(EN i).may x=true/\(EN i).put x=EN (i+1):=by
 match i,hi with
 | 0,_=>exact⟨p1,rfl,by simp[bp],by unfold Dt.wf;decide,rfl,rfl⟩
 | 1,_=>exact⟨p2,rfl,by simp[bp],by unfold Dt.wf;decide,rfl,rfl⟩
 | 2,_=>exact⟨p3,rfl,by simp[bp],by unfold Dt.wf;decide,rfl,rfl⟩
 | 3,_=>exact⟨p4,rfl,by simp[bp],by unfold Dt.wf;decide,rfl,rfl⟩
 | 4,_=>exact⟨p5,rfl,by simp[bp],by unfold Dt.wf;decide,rfl,rfl⟩
theorem Ke {i:Nat}(hi:i<5):qk (EN i).K (EN (i+1)).K=if i=4 then [⟨0,4⟩] else []:=by
 match i,hi with
 | 0,_=>exact BC _
 | 1,_=>exact tf (i:=1) (by decide)
 | 2,_=>exact tf (i:=2) (by decide)
 | 3,_=>exact tf (i:=3) (by decide)
 | 4,_=>exact DU
end
section
attribute [local irreducible] SW RW aF SC ai ak jN tF
abbrev OL (X:Ix)(K:KM):Hp:=[(16,xP K),(15,.box 110 [.any,.mp 12,.mp 13,.mp 14]),(12,.map (aq Dt.cells ov X.ops) X.co),(13,.map (aq Dt.cells dn X.ch) X.cc),(14,.map (aq Dt.cells dn X.mg) X.cf)]
theorem Kf (X:Ix)(K:KM):(vH X K).aC (· +1)=OL X K:=by
 simp[Hp.aC,Ob.aC,SV.aU,SV.aC,h_,cQ,gY]
theorem Ou (l:List ag)(hl:l.length<=80)(hrow:o8 l):SC Tryz.prog verdict_all.f [ops l] [] 1 16 λ r F=>∃ S,∃ h:dG l S,r= .de [.mp 16,.ptr 15 0]/\F=OL h.X (dY l):=by
 have:=SB.at (Hu l hl hrow) (· +1) 1 (λ n m h=>absurd h (Nat.not_lt_zero n)) (λ n h=>absurd h (Nat.not_lt_zero n)) (λ i _=>by show 0+i+1=1+i;omega);rw[show SV.aU (· +1) [ops l]=[ops l] by simp[SV.aU,SV.aC]] at this;refine SC.mono (show SC Tryz.prog verdict_all.f [ops l] [] 1 16 _ from this) ?_;rintro r F ⟨r0,F0,⟨S,h,rfl,rfl⟩,rfl,rfl⟩;exact⟨S,h,rfl,Kf _ _⟩
theorem Kg (X:Ix)(hX:X.small)(K:KM)(d:Dt)(hh:MM.has X.ops d=true)(hT:(X.j9 d).length<1000000000)(k:Nat):aF Tryz.prog verdict_hits.f [.ptr 15 0,.mp 16,.agg d.cells] (OL X K) k 8 (.gs (k+7) (j_ X.j9 K d).length) ((k+7,s9 (j_ X.j9 K d) 12)::OL X K):=by
 have:=SB.nB [15,12,13,14,16] (Cs X hX K d hh hT) (by decide) (λ i hi=>by
  match i,hi with
  | 0,_|1,_|2,_|3,_|4,_=>simp[aa]) k
 generalize j_ X.j9 K d=R at this ⊢;simp[SV.aU,SV.aC,fz,Dt.aA,Hp.aC,Ob.aC,cQ,gY,h_,SV.dN] at this;rw[Nat.add_comm 7 k] at this;exact this
noncomputable def lT (l:List ag)(d:Dt):SV:=if bJ l d then .de [bg (j_ (bE l) (dY l) d),i64 0] else .de [.d .aG,i64 7]
set_option maxHeartbeats 8000000 in
theorem HE (l:List ag)(hl:l.length<=80)(hrow:o8 l)(d:Dt):Go.Sl.Pure Tryz.prog verdict_Hits.f [ops l,.agg d.cells] (lT l d):=by
 refine verdict_Hits.enter (by first|rfl|simp[SV.ok,SV.au]) (by first|rfl|simp[Hp.ok,Ob.ok,SV.ok,SV.au,aB.aj]) (by simp) ?_;dsimp only[verdict_Hits.s,Co.M,Co.J,Co.F,Co.Z,Co.b8,Co.K,Co.E,Co.P,Co.R,Co.x,Co.S];refine SW.seq (SW.g0 ii Zm af ?_);refine SW.seq (SW.xd ?_);(repeat (first|refine bq.op af (h:=?_)|refine bq.di af (h:=?_)|refine bq.skip (h:=?_)));refine bq.aW (Ou l hl hrow) (HSub.nil _) (h:=?_);rintro _ _ ⟨S,h,rfl,rfl⟩;simp only[bU,dx,dy,gA,gR,bY,lk,List.lookup,Nat.reduceBEq,BEq.rfl,beq_self_eq_true,if_true,if_false,reduceIte,Nat.reduceEqDiff,Bool.false_eq_true,Option.isSome_some,Option.isSome_none,Nat.reduceAdd];(repeat (first|refine bq.op af (h:=?_)|refine bq.di af (h:=?_)|refine bq.skip (h:=?_)));refine bq.nil ?_;have hsm:=h.small hl;have hT:=h.K9 hl d;have hhas:MM.has h.X.ops d=bJ l d:=by rw[h.GU,h.tH]
 have hlk:=pX (dY l).m d;change _=SV.d (.int .u8 (((dY l).get d:Nat):Int)) at hlk;rw[fU] at hlk;refine SW.seq (SW.seq ?_);unfold lT;cases hg:bJ l d with
 | false=>
  have e0:eB l d=0:=by unfold eB;rw[if_neg (by rw[hg];decide)]
  rw[e0] at hlk;have z0:((((0:Nat):Int)) == 0)=true:=rfl;refine SW.g0 ii Zm (Zq hlk z0) ?_;refine SW.an rfl (SW.seq (SW.g0 ii Zm af ?_));refine SW.ret ?_;exact End.mk [] (h4:=⟨rfl,rfl⟩)
 | true=>
  obtain⟨n,hn⟩:∃ n,eB l d=n:=⟨_,rfl⟩;have hn0:n≠0:=by
   rw[<- hn];unfold eB;rw[if_pos hg];split<;>decide
  rw[hn] at hlk;have z0:((n:Int) == 0)=false:=by
   have:(n:Int)≠0:=by omega
   simpa using this
  refine SW.g0 ii Zm (Zq hlk z0) ?_;refine SW.ah rfl (SW.skip (SW.seq ?_));have cH:=Kg h.X hsm (dY l) d (by rw[hhas,hg]) hT 17;rw[h.Cq] at cH;generalize j_ (bE l) (dY l) d=R at cH ⊢;refine SW.g1 ii Zm af cH ?_;refine SW.freeze 24 (R.flatMap Dt.ds) rfl rfl ?_;simp only[iM,SV.gz,List.map_cons,List.map_nil,if_true,if_false,reduceIte,Nat.reduceEqDiff];refine SW.ret ?_;exact End.mk [] (h4:=⟨rfl,rfl⟩)
theorem Av (l:List ag)(hl:l.length<=80)(hrow:o8 l)(d:Dt)(k:Nat):aF Tryz.prog verdict_Hits.f [ops l,.agg d.cells] [] k 0 (lT l d) []:=(HE l hl hrow d).sc (by unfold lT;split<;>rfl) k
theorem Kh (e r m:Nat)(hd:[e,r,m].Nodup)(E:En)(hw:E.kn.wf)(o:ag)(ho:o.dot.wf)(hm:E.may o=true)(wI:(E.l++[o]).length<=80)(hrow:o8 (E.l++[o]))(lV:∀ k,aF Tryz.prog slices_Clone_Lapi_Claim_api_Claim.f [.d o.lines] [] k 0 (.d o.lines) [])(k:Nat):
  aF Tryz.prog verdict_Engine_Put.f [.ptr e 0,.agg o.cells] (eH e r m E) k 6 (.de [bg (qk E.K (E.put o).K),i64 0]) (eH e (k+4) (k+5) (E.put o)):=by
 have:=SB.nB [e,r,m] (J_ E hw o ho hm wI hrow lV) hd (λ i hi=>Cu E i hi) k;rw[tc,tc] at this;have e7:fz [e,r,m] k 7=k+4:=by simp[fz];omega
 have e8:fz [e,r,m] k 8=k+5:=by simp[fz];omega
 rw[e7,e8] at this
 simpa[SV.aU,SV.aC,fz,ag.aA] using this
theorem DW (e r m:Nat)(hd:[e,r,m].Nodup)(E:En)(hw:E.kn.wf)(o:ag)(ho:o.dot.wf)(hm:E.may o=false)(k:Nat):aF Tryz.prog verdict_Engine_Put.f [.ptr e 0,.agg o.cells] (eH e r m E) k 0 (.de [.d .aG,i64 9]) (eH e r m E):=by
 have:=SB.nB [e,r,m] (J8 E hw o ho hm) hd (λ i hi=>Cu E i hi) k;rw[tc] at this
 simpa[SV.aU,SV.aC,fz,ag.aA] using this
end
section
attribute [local irreducible] SW RW aF SC ai ak jN tF
set_option maxRecDepth 100000 in
set_option maxHeartbeats 4000000 in
theorem DX:Go.Sl.Pure Tryz.prog law19_row.f [] (ops [q1,q2,q3,q4,q5]):=by
 refine law19_row.enter (by first|rfl|simp[SV.ok,SV.au]) (by first|rfl|simp[Hp.ok,Ob.ok,SV.ok,SV.au,aB.aj]) (by simp) ?_;dsimp only[law19_row.s,Co.M,Co.J,Co.F,Co.b8,Co.ay,Co.bu,Co.z8,Co.bC,Co.K,Co.W,Co.S];refine SW.seq (SW.g0 [0,1] Zm af ?_);refine SW.seq (SW.g0 [0,1] Zm af ?_);refine SW.seq ?_
 (refine SW.bG [0,1] Zm ?_;(repeat (first|refine RW.Bo q1.cells rfl rfl (by decide) (h:=?_)|refine RW.Bo q2.cells rfl rfl (by decide) (h:=?_)|refine RW.Bo q3.cells rfl rfl (by decide) (h:=?_)|refine RW.Bo q4.cells rfl rfl (by decide) (h:=?_)|refine RW.Bo q5.cells rfl rfl (by decide) (h:=?_)|refine Pg q1 q2 q3 q4 q5 rfl rfl rfl rfl rfl rfl (h:=?_)|refine RW.ro af (h:=?_)|refine RW.skip (h:=?_)|refine RW.op af (h:=?_)|refine RW.di af (h:=?_)|refine RW.aR (h:=?_)));refine RW.nil ⟨by kernel_rfl,ak.mk (h:=?_)⟩)
 refine SW.ret ?_;exact End.mk [] (h4:=⟨rfl,rfl⟩)
theorem DY (k:Nat):aF Tryz.prog law19_row.f [] [] k 0 (ops bp) []:=by
 have h0:aF Tryz.prog law19_row.f [] [] k 0 (ops [q1,q2,q3,q4,q5]) []:=DX.sc rfl k;refine SC.N4 h0 λ p μ M u hu=> ?_
 rw[Rp.cI] at hu ⊢;have:=bQ.PD hu;rw[<- E3] at this;exact this
def q6:ag:=⟨⟨0,6⟩,aB.zero,0,0,⟨0,0⟩,0,⟨0,0⟩,0,0,0,0,⟨0,0⟩,⟨0,0⟩,0,0,0,.aG⟩
theorem Px (i:Nat):(EN i).l=bp.take i:=rfl
theorem HF {i:Nat}(hi:i<5):∃ x,bp[i]? =some x/\∀ k,aF Tryz.prog verdict_Engine_Put.f [.ptr 0 0,.agg x.cells] (eH 0 1 2 (EN i)) k 6 (.de [bg (if i=4 then [⟨0,4⟩] else []),i64 0]) (eH 0 (k+4) (k+5) (EN (i+1))):=by
 obtain⟨x,h1,h2,h3,h4,h5⟩:=Kc hi;refine⟨x,h1,λ k=> ?_⟩;have hl:(EN i).l++[x]=bp.take (i+1):=by rw[Px,bt h1]
 have hx:=Al x h2;have:=Kh 0 1 2 (by decide) (EN i) (Lb (by omega)) x h3 h4 (by rw[hl,List.length_take];have:bp.length=5:=rfl;omega) (by rw[hl];exact λ o ho=>vM o (List.mem_of_mem_take ho)) (λ k=>by rw[hx.2.1.eq];exact(xz x.cl hx.2.2).sc rfl k) k;rw[h5,Ke hi] at this;exact this
theorem Ov:tJ (EN 5) ⟨0,4⟩= .de [.d (.int .u8 1),i64 0]:=by
 have e:(EN 5).K=dY bp:=rfl;unfold tJ;rw[e,vS,if_pos (by rw[Bt];decide),fU,Pw];rfl
theorem Qn (k:Nat):aF Tryz.prog verdict_Hits.f [ops bp,.agg (Dt.mk 0 4).cells] [] k 0 (.de [bg [⟨1,1⟩],.d (.int .i64 0)]) []:=by
 have:=Av bp (by decide) vM ⟨0,4⟩ k;unfold lT at this;rw[if_pos OJ,MN] at this;exact this
theorem Py (k:Nat):aF Tryz.prog ref03_Same.f [bg [⟨0,4⟩],.d (.sl 1 (Dt.mk 0 4).ds)] [] k 0 (.d (.bool true)) []:=yh [⟨0,4⟩] [⟨0,4⟩] (by decide) (by decide) k
theorem uq {K:KM}{d:Dt}{n:Nat}(h:K.get d=n):fK (aq Dt.cells kv K.m) (.d (.int .u8 0)) (MM.idx K.m d)= .d (.int .u8 (n:Int)):=by
 have:=pX K.m d;change _=SV.d (.int .u8 ((K.get d:Nat):Int)) at this;rw[this,h]
set_option maxHeartbeats 16000000 in
theorem DZ:Go.Sl.Pure Tryz.prog law19_head.f [] (bl true):=by
 refine law19_head.enter (by first|rfl|simp[SV.ok,SV.au]) (by first|rfl|simp[Hp.ok,Ob.ok,SV.ok,SV.au,aB.aj]) (by simp) ?_;dsimp only[law19_head.s,Co.M,Co.G,Co.J,Co.H,Co.F,Co.C,Co.Z,Co.B,Co.b8,Co.ay,Co.bC,Co.K,Co.E,Co.L,Co.P,Co.Q,Co.Y,Co.U,Co.I,Co.S];refine SW.seq (SW.g0 bb Zm af ?_);refine SW.seq (SW.g1 bb Zm af DY ?_);have cO:=Hv bp (by decide) vM 0;have m5:(aq Dt.cells kv (dY bp).m).length=5:=by rw[show(aq Dt.cells kv (dY bp).m).length=(dY bp).m.length by simp[aq]];exact Qm
 have k4:=uq (K:=dY bp) (d:=⟨0,4⟩) (n:=1) (by rw[fU];exact Pw);have k3:=uq (K:=dY bp) (d:=⟨0,3⟩) (n:=2) (by rw[fU];exact PX);have k5:=uq (K:=dY bp) (d:=⟨1,1⟩) (n:=2) (by rw[fU];exact PY);generalize dY bp=K at cO m5 k4 k3 k5;refine SW.seq (SW.g1 bb Zm af cO ?_);refine SW.seq (SW.g1 bb Zm af (J5 1) ?_);refine SW.seq (SW.seq (SW.g0 bb Zm (Zq m5 (Zq k4 (Zq k3 (Zq k5 (Zq d4 (Zq d3 Ol)))))) ?_));refine SW.ah rfl (SW.skip (SW.seq (SW.seq (SW.g0 bb Zm af ?_))));refine SW.block (SW.loop (α:={i:Nat // i<=4}) (λ i=>⟨[(4,i64 i.1),(3,.ptr 0 0),(1,ops bp)],eH 0 1 2 (EN i.1),3⟩) (λ i=>4 - i.1) ⟨0,by decide⟩ (λ n=>if n=0 then 2 else if n=1 then 3 else 1) ?_ ?_)
 .refine⟨Nat.zero_le _,λ n hn=>absurd hn (Nat.not_lt_zero n),?_,?_,?_⟩
  .simp[aL,List.lookup,SV.aC,SV.ok,SV.aU,SV.au]
  .rw[Kb]
   simp[tS,aa,Ob.aC,Ob.ok,rY,vQ,h_,eN,SV.aU,SV.aC,SV.dN,SV.au,SV.ok,SV.aZ,En.zero];exact⟨rfl,rfl,rfl⟩
  .intro a ha b hb e
   simp only[List.map_cons,List.map_nil,List.mem_cons,List.not_mem_nil,or_false] at ha hb;rcases ha with rfl|rfl|rfl<;>rcases hb with rfl|rfl|rfl<;>simp at e<;>rfl
 rintro⟨i,hi⟩;dsimp only
 by_cases h:i<4
 .have h1:decide ((i:Int)<4)=true:=by simp only[decide_eq_true_eq];omega
  have e2:IntKind.i64.wrap ((i:Int)+1)=((i+1:Nat):Int):=wrap_i64 _ (by omega);obtain⟨x,hx,cP⟩:=HF (i:=i) (by omega);rw[if_neg (by omega)] at cP;have hpl:=cu hx;have cP3:aF Tryz.prog verdict_Engine_Put.f [.ptr 0 0,.agg x.cells] (eH 0 1 2 (EN i)) 3 6 (.de [bg [],i64 0]) (eH 0 7 8 (EN (i+1))):=cP 3;obtain⟨E1,oB⟩:∃ E1,EN (i+1)=E1:=⟨_,rfl⟩;rw[oB] at cP3;refine SW.seq (SW.seq (SW.g0 bb Zm h1 ?_));refine SW.an rfl (SW.skip (SW.seq (SW.block (SW.seq (SW.g1 bb Zm (Zq (tB hx) (lD hx)) cP3 ?_)))));refine SW.seq (SW.g0 bb Zm af ?_);refine SW.ah rfl (SW.skip (SW.g0 bb Zm e2 ?_));refine⟨⟨i+1,by omega⟩,λ n=>if n=1 then 7 else if n=2 then 8 else n,by show 4 - (i+1)<4 - i;omega,?_⟩;dsimp only;rw[oB];refine⟨Nat.zero_le _,λ n hn=>absurd hn (Nat.not_lt_zero n),?_,?_,?_⟩
  .simp[aL,List.lookup,SV.aC,SV.ok,SV.aU,SV.au]
  .simp[tS,aa,Ob.aC,Ob.ok,rY,vQ,h_,eN,SV.aU,SV.aC,SV.dN,SV.au,SV.ok,SV.aZ]
  .intro a ha b hb e
   simp only[List.map_cons,List.map_nil,List.mem_cons,List.not_mem_nil,or_false] at ha hb;rcases ha with rfl|rfl|rfl<;>rcases hb with rfl|rfl|rfl<;>simp at e<;>rfl
 have h1:decide ((i:Int)<4)=false:=by simp only[decide_eq_false_iff_not];omega
 have h4:i=4:=by omega
 subst h4;refine SW.seq (SW.seq (SW.g0 bb Zm h1 ?_));refine SW.ah rfl (SW.exit ?_);refine(?_:Sl.SW _ _ _ _ _ _);obtain⟨x,hx,cP⟩:=HF (i:=4) (by omega);rw[if_pos rfl] at cP;have hpl:=cu hx;obtain rfl:x=p5:=(Option.some.inj hx).symm;have cP3:aF Tryz.prog verdict_Engine_Put.f [.ptr 0 0,.agg p5.cells] (eH 0 1 2 (EN 4)) 3 6 (.de [bg [⟨0,4⟩],i64 0]) (eH 0 7 8 (EN 5)):=cP 3;have cN:∀ k,aF Tryz.prog verdict_Engine_Put.f [.ptr 0 0,.agg q6.cells] (eH 0 7 8 (EN 5)) k 0 (.de [.d .aG,i64 9]) (eH 0 7 8 (EN 5)):=DW 0 7 8 (by decide) (EN 5) (Lb (by decide)) q6 (by unfold Dt.wf;decide) rfl;have cT:=J3 0 7 8 (by decide) (EN 5) ⟨0,4⟩;rw[Ov] at cT;refine SW.seq (SW.g1 bb Zm (Zq (tB hx) (lD hx)) cP3 ?_);refine SW.seq ?_
 (refine SW.bG bb Zm ?_;(repeat (first|refine RW.Bo (Dt.mk 0 6).cells rfl rfl (by decide) (h:=?_)|refine RW.Bo q6.cells rfl rfl (by decide) (h:=?_)|refine RW.ro af (h:=?_)|refine RW.skip (h:=?_)|refine RW.op af (h:=?_)|refine RW.di af (h:=?_)|refine RW.aR (h:=?_)|(refine RW.aW (h:=?_);(first|refine ai.mk af (hc:=cN _) (h:=?_)))));refine RW.nil ⟨cB (by kernel_rfl),ak.mk (h:=?_)⟩)
 refine SW.seq (SW.g1 bb Zm d4 cT ?_);refine SW.seq (SW.g1 bb Zm d4 Qn ?_);refine SW.seq (SW.g2 bb Zm (Zq d4 Ol) Py Qh ?_);refine SW.ret ?_;exact End.mk [] (h4:=⟨rfl,rfl⟩)
theorem mX (k:Nat):aF Tryz.prog law19_head.f [] [] k 0 (.d (.bool true)) []:=DZ.sc rfl k
end
end Go.Proofs.YtaelhkkjgfobhaaGreat
namespace Go.Proofs.YtaelhkkjgfobhaaGreat
open Go.Sl Go.Proofs
theorem D0 {P:Program}{t:TypeId}{n:Nat}{ds:List DV}(h:dV P t=some (some n)):ot P t ds= .agg (ds.map .d):=by simp[ot,h]
theorem D1 {P:Program}{t:TypeId}{ds:List DV}(h:dV P t=some none):ot P t ds= .d (ds.headD .oy):=by simp[ot,h]
set_option maxRecDepth 100000 in
theorem Ki {d:Nat}{ds:List DV}(h:Fit Tryz.prog (d+2) rD ds):∃ v:aB,v.wf/\ds=v.ds:=
 Iz (P:= Tryz.prog) (t:=rD) (e:=E6) Tryz.underlying39 Tryz.underlying35 (by kernel_rfl) (by kernel_rfl) h
set_option maxRecDepth 100000 in
theorem mu {d:Nat}{ds:List DV}(h:Fit Tryz.prog (d+2) pN ds):∃ x:Dt,x.wf/\ds=x.ds:=
 IA (P:= Tryz.prog) (t:=pN) Tryz.underlying37 rfl rfl rfl rfl Tryz.underlying5 Tryz.underlying35 (by kernel_rfl) (by kernel_rfl) (by kernel_rfl) h
set_option maxRecDepth 100000 in
theorem D2 {d:Nat}{ds:List DV}(h:Fit Tryz.prog (d+3) jf ds):∃ x:Cm,x.wf/\ds=x.ds:=by
 have f0:=bV (P:= Tryz.prog) (t:=jf) Tryz.underlying148 h 0 _ rfl;have f1:=bV (P:= Tryz.prog) (t:=jf) Tryz.underlying148 h 1 _ rfl;have hl:=yd (P:= Tryz.prog) (t:=jf) Tryz.underlying148 h;rw[show Tryz.prog.cellsOf jf=4 from by kernel_rfl] at hl;obtain⟨x0,w0,e0⟩:=mu (d:=d) f0;obtain⟨x1,w1,e1⟩:=mu (d:=d) f1;refine⟨⟨x0,x1⟩,⟨w0,w1⟩,?_⟩;have g0:ds.drop 0=x0.ds++ds.drop 2:=nZ (n:=2) e0 rfl;have g1:ds.drop 2=x1.ds++ds.drop 4:=nZ (n:=2) e1 rfl;have g:ds.drop 4=[]:=List.drop_of_length_le (by omega);have g':ds=ds.drop 0:=rfl;rw[g',g0,g1,g];rfl
set_option maxRecDepth 100000 in
theorem D3 {d:Nat}{ds:List DV}(h:Fit Tryz.prog (d+4) qh ds):ds=[.aG]\/∃ l:List Cm,(∀ x∈l,x.wf)/\l.length<=9223372036854775807/\ds=[.sl l.length (l.flatMap Cm.ds)]:=
 xk Cm.ds Cm.wf (P:= Tryz.prog) (t:=qh) (e:=jf) Tryz.underlying41 (λ _ h=>D2 h) h
structure M7 (o:ag):Prop where
 dot:o.dot.wf
 dep:o.dep.wf
 time:o.time<18446744073709551616
 who:o.who<4294967296
 aI:o.aI.wf
 kind:o.kind<256
 aN:o.aN.wf
 to:o.to<4294967296
 aT:o.aT<256
 depth:o.depth<256
 cap:o.cap<18446744073709551616
 at_:o.at_.wf
 j5:o.j5.wf
 item:o.item<4294967296
 Lz:o.Lz<4294967296
 zp:o.zp<4294967296
 lines:o.lines= .aG\/∃ cl:List Cm,o.lines= .sl cl.length (cl.flatMap Cm.ds)/\cl.length<=9223372036854775807
set_option maxRecDepth 100000 in
set_option maxHeartbeats 2000000 in
theorem MO {d:Nat}{ds:List DV}(h:Fit Tryz.prog (d+5) dm ds):∃ o:ag,M7 o/\ds=o.ds:=by
 have f0:=bV (P:= Tryz.prog) (t:=dm) Tryz.underlying43 h 0 _ rfl;have f1:=bV (P:= Tryz.prog) (t:=dm) Tryz.underlying43 h 1 _ rfl;have f2:=bV (P:= Tryz.prog) (t:=dm) Tryz.underlying43 h 2 _ rfl;have f3:=bV (P:= Tryz.prog) (t:=dm) Tryz.underlying43 h 3 _ rfl;have f4:=bV (P:= Tryz.prog) (t:=dm) Tryz.underlying43 h 4 _ rfl;have f5:=bV (P:= Tryz.prog) (t:=dm) Tryz.underlying43 h 5 _ rfl;have f6:=bV (P:= Tryz.prog) (t:=dm) Tryz.underlying43 h 6 _ rfl;have f7:=bV (P:= Tryz.prog) (t:=dm) Tryz.underlying43 h 7 _ rfl;have f8:=bV (P:= Tryz.prog) (t:=dm) Tryz.underlying43 h 8 _ rfl;have f9:=bV (P:= Tryz.prog) (t:=dm) Tryz.underlying43 h 9 _ rfl;have f10:=bV (P:= Tryz.prog) (t:=dm) Tryz.underlying43 h 10 _ rfl;have f11:=bV (P:= Tryz.prog) (t:=dm) Tryz.underlying43 h 11 _ rfl;have f12:=bV (P:= Tryz.prog) (t:=dm) Tryz.underlying43 h 12 _ rfl;have f13:=bV (P:= Tryz.prog) (t:=dm) Tryz.underlying43 h 13 _ rfl;have f14:=bV (P:= Tryz.prog) (t:=dm) Tryz.underlying43 h 14 _ rfl;have f15:=bV (P:= Tryz.prog) (t:=dm) Tryz.underlying43 h 15 _ rfl;have f16:=bV (P:= Tryz.prog) (t:=dm) Tryz.underlying43 h 16 _ rfl;have hl:=yd (P:= Tryz.prog) (t:=dm) Tryz.underlying43 h;rw[show Tryz.prog.cellsOf dm=29 from by kernel_rfl] at hl;obtain⟨x0,w0,e0⟩:=mu (d:=d+2) f0;obtain⟨x1,w1,e1⟩:=Ki (d:=d+2) f1;obtain⟨x2,w2,e2⟩:=BU (P:= Tryz.prog) Tryz.underlying40 f2;obtain⟨x3,w3,e3⟩:=nX (P:= Tryz.prog) Tryz.underlying35 f3;obtain⟨x4,w4,e4⟩:=mu (d:=d+2) f4;obtain⟨x5,w5,e5⟩:=yc (P:= Tryz.prog) Tryz.underlying5 f5;obtain⟨x6,w6,e6⟩:=mu (d:=d+2) f6;obtain⟨x7,w7,e7⟩:=nX (P:= Tryz.prog) Tryz.underlying35 f7;obtain⟨x8,w8,e8⟩:=yc (P:= Tryz.prog) Tryz.underlying5 f8;obtain⟨x9,w9,e9⟩:=yc (P:= Tryz.prog) Tryz.underlying5 f9;obtain⟨OC,w10,e10⟩:=BU (P:= Tryz.prog) Tryz.underlying40 f10;obtain⟨OD,w11,PJ⟩:=mu (d:=d+2) f11;obtain⟨OE,w12,e12⟩:=mu (d:=d+2) f12;obtain⟨OF,w13,e13⟩:=nX (P:= Tryz.prog) Tryz.underlying35 f13;obtain⟨x14,w14,e14⟩:=nX (P:= Tryz.prog) Tryz.underlying35 f14;obtain⟨x15,w15,e15⟩:=nX (P:= Tryz.prog) Tryz.underlying35 f15;have e16:∃ y,(ds.drop 28).take 1=[y]/\(y= .aG\/∃ cl:List Cm,y= .sl cl.length (cl.flatMap Cm.ds)/\cl.length<=9223372036854775807):=by
  rcases D3 (d:=d) f16 with e|⟨cl,_,hn,e⟩
  .exact⟨.aG,e,.inl rfl⟩
  .exact⟨_,e,.inr ⟨cl,rfl,hn⟩⟩
 obtain⟨x16,e16,w16⟩:=e16;refine⟨⟨x0,x1,x2,x3,x4,x5,x6,x7,x8,x9,OC,OD,OE,OF,x14,x15,x16⟩,⟨w0,w1,w2,w3,w4,w5,w6,w7,w8,w9,w10,w11,w12,w13,w14,w15,w16⟩,?_⟩;have g0:ds.drop 0=x0.ds++ds.drop 2:=nZ (n:=2) e0 rfl;have g1:ds.drop 2=x1.ds++ds.drop 10:=nZ (n:=8) e1 rfl;have g2:ds.drop 10=[.int .u64 x2]++ds.drop 11:=nZ (n:=1) e2 rfl;have g3:ds.drop 11=[.int .u32 x3]++ds.drop 12:=nZ (n:=1) e3 rfl;have g4:ds.drop 12=x4.ds++ds.drop 14:=nZ (n:=2) e4 rfl;have g5:ds.drop 14=[.int .u8 x5]++ds.drop 15:=nZ (n:=1) e5 rfl;have g6:ds.drop 15=x6.ds++ds.drop 17:=nZ (n:=2) e6 rfl;have g7:ds.drop 17=[.int .u32 x7]++ds.drop 18:=nZ (n:=1) e7 rfl;have g8:ds.drop 18=[.int .u8 x8]++ds.drop 19:=nZ (n:=1) e8 rfl;have g9:ds.drop 19=[.int .u8 x9]++ds.drop 20:=nZ (n:=1) e9 rfl;have g10:ds.drop 20=[.int .u64 OC]++ds.drop 21:=nZ (n:=1) e10 rfl;have g11:ds.drop 21=OD.ds++ds.drop 23:=nZ (n:=2) PJ rfl;have g12:ds.drop 23=OE.ds++ds.drop 25:=nZ (n:=2) e12 rfl;have g13:ds.drop 25=[.int .u32 OF]++ds.drop 26:=nZ (n:=1) e13 rfl;have g14:ds.drop 26=[.int .u32 x14]++ds.drop 27:=nZ (n:=1) e14 rfl;have g15:ds.drop 27=[.int .u32 x15]++ds.drop 28:=nZ (n:=1) e15 rfl;have g16:ds.drop 28=[x16]++ds.drop 29:=nZ (n:=1) e16 rfl;have g:ds.drop 29=[]:=List.drop_of_length_le (by omega);have g':ds=ds.drop 0:=rfl;rw[g',g0,g1,g2,g3,g4,g5,g6,g7,g8,g9,g10,g11,g12,g13,g14,g15,g16,g];rfl
set_option maxRecDepth 100000 in
theorem Kj {d:Nat}{ds:List DV}(h:Fit Tryz.prog (d+6) lI ds):ds=[.aG]\/∃ l:List ag,(∀ x∈l,M7 x)/\l.length<=9223372036854775807/\ds=[.sl l.length (l.flatMap ag.ds)]:=
 xk ag.ds M7 (P:= Tryz.prog) (t:=lI) (e:=dm) Tryz.underlying22 (λ _ h=>MO h) h
theorem Kk (x:DV):ot Tryz.prog lI [x]= .d x:=by rw[D1 (by kernel_rfl)];rfl
theorem M7.nz {q:ag}(h:M7 q):M7 q.nz/\q.nz.mZ:=by
 have hl:q.nz.mZ/\(q.nz.lines= .aG\/∃ cl:List Cm,q.nz.lines= .sl cl.length (cl.flatMap Cm.ds)/\cl.length<=9223372036854775807):=by
  rcases h.lines with e|⟨cl,e,lV⟩
  .have e':q.nz.lines= .sl ([]:List Cm).length (([]:List Cm).flatMap Cm.ds):=by show Go.Sl.nz q.lines=_;rw[e];rfl
   exact⟨(ag.mZ.of e' (by simp)).1,.inr ⟨[],e',by simp⟩⟩
  .have e':q.nz.lines= .sl cl.length (cl.flatMap Cm.ds):=by show Go.Sl.nz q.lines=_;rw[e];rfl
   exact⟨(ag.mZ.of e' lV).1,.inr ⟨cl,e',lV⟩⟩
 exact⟨⟨h.dot,h.dep,h.time,h.who,h.aI,h.kind,h.aN,h.to,h.aT,h.depth,h.cap,h.at_,h.j5,h.item,h.Lz,h.zp,hl.2⟩,hl.1⟩
theorem own:ownKnob Tryz.prog.godebug=none:=by kernel_rfl
theorem BD (M:Mem):qn M:=λ g cs hg=>by simp[Ei,yU] at hg
theorem Kl {P:Program}{d:Nat}{t1 t2:TypeId}{vY:List (List DV)}(h:sF P d [t1,t2] vY):∃ x0 x1,vY=[x0,x1]/\Fit P d t1 x0/\Fit P d t2 x1:=by
 match vY,h with
 | [x0,x1],h=>
  simp only[sF] at h;exact⟨x0,x1,rfl,h.1,h.2.1⟩
end Go.Proofs.YtaelhkkjgfobhaaGreat
namespace Go.Proofs.YtaelhkkjgfobhaaGreat
open Go.Sl Go.Proofs
section
attribute [local irreducible] SW RW aF SC ai ak jN tF
def qm (p:Dt×Nat):List DV:=[.int .u8 p.1.r,.int .u32 p.1.n,.int .u8 p.2]
def said (g:Dt->Nat)(D:List Dt):List (Dt×Nat):=D.map λ d=>(d,g d)
abbrev vT (L:List (Dt×Nat)):List SV:=List.map SV.d (L.flatMap qm)
abbrev wJ (L:List (Dt×Nat)):SV:= .d (.sl L.length (L.flatMap qm))
theorem gq (g:Dt->Nat)(D:List Dt):(said g D).length=D.length:=by unfold said;rw[List.length_map]
theorem vU (g:Dt->Nat){D:List Dt}{i:Nat}{x:Dt}(h:D[i]? =some x):(said g D)[i]? =some (x,g x):=by unfold said;rw[List.getElem?_map,h];rfl
theorem r6 (L:List (Dt×Nat)):(vT L).length=L.length*3:=by rw[List.length_map,dU qm 3 (λ _=>rfl)]
theorem vV {L:List (Dt×Nat)}{i:Nat}{p:Dt×Nat}(h:L[i]? =some p):List.take 2 (List.drop (i*3) (vT L))=p.1.cells:=by
 have h1:=Go.Sl.gw qm 3 (λ _=>rfl) L i p h;have h2:List.take 2 (List.drop (i*3) (L.flatMap qm))=p.1.ds:=by
  have:List.take 2 (List.take 3 (List.drop (i*3) (L.flatMap qm)))=List.take 2 (qm p):=by rw[h1]
  rw[List.take_take] at this;exact this
 rw[<- List.map_drop,<- List.map_take,h2];rfl
theorem Ow {L:List (Dt×Nat)}{i:Nat}{p:Dt×Nat}(h:L[i]? =some p):(vT L)[i*3+2]? =some (.d (.int .u8 (p.2:Int))):=by
 rw[List.getElem?_map,ru qm 3 (λ _=>rfl) L i 2 p h (by decide)];rfl
theorem r7 {L:List (Dt×Nat)}{i:Nat}{p:Dt×Nat}(h:L[i]? =some p):(i*3+2<=(vT L).length)=True:=eq_true (by
 have:=cu h;rw[r6];omega)
theorem vW {L:List (Dt×Nat)}{i:Nat}{p:Dt×Nat}(h:L[i]? =some p):(i*3+2+1<=(vT L).length)=True:=eq_true (by
 have:=cu h;rw[r6];omega)
def Aw (g:Dt->Nat)(D:List Dt)(d:Dt):Nat:=if d∈D then g d else 0
set_option maxHeartbeats 4000000 in
theorem MP (g:Dt->Nat)(D:List Dt)(hD:D.length<1000000)(d:Dt):Go.Sl.Pure Tryz.prog ref19_At.f [wJ (said g D),.agg d.cells] (.d (.int .u8 (Aw g D d:Nat))):=by
 have hl:=gq g D;refine ref19_At.enter (by first|rfl|simp[SV.ok,SV.au]) (by first|rfl|simp[Hp.ok,Ob.ok,SV.ok,SV.au,aB.aj]) (by simp) ?_;dsimp only[ref19_At.s,Co.M,Co.J,Co.F,Co.Z,Co.b8,Co.T,Co.K,Co.L,Co.x,Co.Y,Co.V,Co.D,Co.I,Co.S];refine SW.seq ?_;refine SW.g0 fw Zm af ?_;refine SW.seq (SW.seq ?_);refine SW.g0 fw Zm af ?_;refine SW.block ?_;refine SW.loop (α:={i:Nat // i<=D.length/\∀ j x,j<i->D[j]? =some x->x≠d}) (λ i=>⟨[(5,i64 i.1),(0,wJ (said g D)),(3,.ptr 0 0)],[(0,.box 37 d.cells)],1⟩) (λ i=>D.length - i.1) ⟨0,by omega,by omega⟩ id (aH.same (Nat.zero_le _) (by simp[aL,List.lookup,SV.aC,SV.ok,SV.au]) (by simp[Hp.ok,Ob.ok,Dt.aj]) (λ y hy=>by
  rw[List.mem_singleton] at hy;subst hy;rfl)) ?_
 rintro⟨i,hi,hs⟩;dsimp only
 by_cases h:i<D.length
 .obtain⟨x,hx⟩:=aP h
  have h1:decide ((i:Int)<(said g D).length)=true:=by rw[hl];simp only[decide_eq_true_eq];omega
  have e2:IntKind.i64.wrap ((i:Int)+1)=((i+1:Nat):Int):=wrap_i64 _ (by omega);have hg:=vU g hx;have hpl:=cu hg;refine SW.seq (SW.seq (SW.g0 fw Zm h1 ?_));refine SW.an rfl (SW.skip (SW.seq (SW.block (SW.seq ?_))))
  by_cases hd:x=d
  .have h2:decide (x=d)=true:=by simp[hd]
   refine SW.g0 fw Zm (Zq (vV hg) (Zq (r7 hg) (h2))) ?_;refine SW.an rfl (SW.seq (SW.g0 fw Zm (Zq (Ow hg) (vW hg)) ?_));refine SW.ret ?_;have:d∈D:=by rw[<- hd];exact List.mem_of_getElem? hx
   exact End.mk [] (h4:=⟨by unfold Aw;rw[if_pos this,<- hd];rfl,rfl⟩)
  .have h2:decide (x=d)=false:=by simp[hd]
   refine SW.g0 fw Zm (Zq (vV hg) (Zq (r7 hg) (h2))) ?_;refine SW.ah rfl (SW.skip ?_);refine SW.g0 fw Zm e2 ?_;exact⟨⟨i+1,by omega,λ j y hj hy=>by
    by_cases e:j=i
    .subst e;rw[hx] at hy;injection hy with hy;subst hy;exact hd
    .exact hs j y (by omega) hy⟩,id,by show D.length - (i+1)<_;omega,aH.same (Nat.zero_le _) (by simp[aL,List.lookup,SV.aC,SV.ok,SV.au]) (by simp[Hp.ok,Ob.ok,Dt.aj]) (λ y hy=>by
    rw[List.mem_singleton] at hy;subst hy;rfl)⟩
 have h1:decide ((i:Int)<(said g D).length)=false:=by rw[hl];simp only[decide_eq_false_iff_not];omega
 refine SW.seq (SW.seq (SW.g0 fw Zm h1 ?_));refine SW.ah rfl (SW.exit ?_);refine(?_:Sl.SW _ _ _ _ _ _);refine SW.seq (SW.g0 fw Zm af ?_);refine SW.ret ?_;have:d∉D:=λ hm=>by
  obtain⟨j,hj⟩:=List.mem_iff_getElem?.1 hm;exact hs j d (by have:=cu hj;omega) hj rfl
 exact End.mk [] (h4:=⟨by unfold Aw;rw[if_neg this];rfl,rfl⟩)
theorem HG (g:Dt->Nat)(D:List Dt)(hD:D.length<1000000)(d:Dt)(k:Nat):aF Tryz.prog ref19_At.f [wJ (said g D),.agg d.cells] [] k 0 (.d (.int .u8 (Aw g D d:Nat))) []:=(MP g D hD d).sc rfl k
def j3 (g h:Dt->Nat)(D:List Dt)(i:Nat):List (Dt×Nat):=said h (D.take i)++said g (D.drop i)
theorem BE (g h:Dt->Nat)(D:List Dt):j3 g h D 0=said g D:=by simp[j3,said]
theorem D4 (g h:Dt->Nat)(D:List Dt):j3 g h D D.length=said h D:=by simp[j3,said]
theorem D5 (g h:Dt->Nat)(D:List Dt)(i:Nat):(j3 g h D i).length=D.length:=by
 unfold j3;rw[List.length_append,gq,gq,List.length_take,List.length_drop];omega
theorem D6 (g h:Dt->Nat){D:List Dt}{i:Nat}{x:Dt}(hx:D[i]? =some x):(j3 g h D i)[i]? =some (x,g x):=by
 have hi:=cu hx;unfold j3;rw[List.getElem?_append_right (by rw[gq,List.length_take];omega),gq,List.length_take,Nat.min_eq_left (by omega),Nat.sub_self];refine vU g ?_;rw[List.getElem?_drop,Nat.add_zero];exact hx
theorem D7 (g h:Dt->Nat){D:List Dt}{i:Nat}{x:Dt}(hx:D[i]? =some x):(j3 g h D i).set i (x,h x)=j3 g h D (i+1):=by
 have hi:=cu hx;have hl:(said h (D.take i)).length=i:=by rw[gq,List.length_take];omega
 have hd:D.drop i=x::D.drop (i+1):=by
  rw[List.drop_eq_getElem_cons hi];rw[List.getElem?_eq_getElem hi] at hx;injection hx with hx;rw[hx]
 unfold j3;rw[List.set_append_right _ _ (by omega),hl,Nat.sub_self,hd,bt hx];simp[said]
def MQ (g:Dt->Nat)(d:Dt)(v:Nat):Dt->Nat:=λ e=>if e=d then v else g e
theorem MR {L:List (Dt×Nat)}{i:Nat}{d:Dt}{w:Nat}(v:Nat)(h:L[i]? =some (d,w)):cq (vT L) (i*3+2) [.d (.int .u8 (v:Int))]=vT (L.set i (d,v)):=by
 have hi:=cu h;have h1:=ya qm 3 (by decide) (λ _=>rfl) L i (d,v) hi;refine Eq.trans ?_ h1;have hL:vT L=(vT L).take (i*3)++(qm (d,w)).map .d++(vT L).drop (i*3+3):=by
  have h2:=Go.Sl.gw qm 3 (λ _=>rfl) L i (d,w) h;have h3:List.take 3 (List.drop (i*3) (vT L))=(qm (d,w)).map .d:=by rw[<- List.map_drop,<- List.map_take,h2]
  rw[<- h3,List.append_assoc,<- List.drop_drop,List.take_append_drop,List.take_append_drop]
 have hlen:=r6 L;have ht:((vT L).take (i*3)).length=i*3:=by rw[List.length_take];omega
 generalize (vT L).take (i*3)=A at hL ht;generalize (vT L).drop (i*3+3)=B at hL;show cq (vT L) (i*3+2) [.d (.int .u8 (v:Int))]=cq (vT L) (i*3) ((qm (d,v)).map .d);rw[hL,<- ht];have e1:(A++List.map SV.d (qm (d,w))++B).set (A.length+2) (.d (.int .u8 (v:Int)))=A++(List.map SV.d (qm (d,v))++B):=by
  rw[List.append_assoc,List.set_append_right _ _ (by omega),Nat.add_sub_cancel_left];rfl
 have e2:List.take A.length (A++List.map SV.d (qm (d,w))++B)=A:=by rw[List.append_assoc,List.take_left'];rfl
 have e3:List.drop (A.length+3) (A++List.map SV.d (qm (d,w))++B)=B:=by rw[List.append_assoc,<- List.drop_drop,List.drop_left'];rfl;rfl
 show(A++List.map SV.d (qm (d,w))++B).set (A.length+2) (.d (.int .u8 (v:Int)))=List.take A.length (A++List.map SV.d (qm (d,w))++B)++List.map SV.d (qm (d,v))++List.drop (A.length+3) (A++List.map SV.d (qm (d,w))++B);rw[e1,e2,e3,List.append_assoc]
set_option maxHeartbeats 4000000 in
theorem HH (g:Dt->Nat)(D:List Dt)(hD:D.length<1000000)(d:Dt)(v:Nat):Go.Sl.Pure Tryz.prog ref19_with.f [wJ (said g D),.agg d.cells,.d (.int .u8 (v:Int))] (wJ (said (MQ g d v) D)):=by
 have hl:=gq g D;refine ref19_with.enter (by first|rfl|simp[SV.ok,SV.au]) (by first|rfl|simp[Hp.ok,Ob.ok,SV.ok,SV.au,aB.aj]) (by simp) ?_;dsimp only[ref19_with.s,Co.M,Co.J,Co.F,Co.Z,Co.K,Co.L,Co.x,Co.W,Co.Y,Co.V,Co.D,Co.I,Co.S];refine SW.seq (SW.g0 du Zm af ?_);have sdl:=r6 (said g D);have hD1:(said g D).length*12<=140737488355328:=by omega
 refine SW.seq (SW.g0 du Zm sdl ?_);obtain⟨h,hh⟩:∃ h,MQ g d v=h:=⟨_,rfl⟩;have hx1:∀ x,x=d->h x=v:=λ x e=>by rw[<- hh];unfold MQ;rw[if_pos e]
 have hx2:∀ x,x≠d->h x=g x:=λ x e=>by rw[<- hh];unfold MQ;rw[if_neg e]
 rw[hh];have hU:=λ i=>D5 g h D i
 refine SW.seq (SW.seq ?_);refine SW.g0 du Zm af ?_;refine SW.block ?_;refine SW.loop (α:={i:Nat // i<=D.length}) (λ i=>⟨[(8,i64 i.1),(7,.gs 2 D.length),(4,.ptr 0 0),(2,.d (.int .u8 (v:Int)))],[(2,.arr 82 3 D.length (vT (j3 g h D i.1))),(0,.box 37 d.cells)],3⟩) (λ i=>D.length - i.1) ⟨0,by omega⟩ id (by
  dsimp only;rw[BE,<- hl];exact aH.same (Nat.zero_le _) (by simp[aL,List.lookup,SV.aC,SV.ok,SV.au]) (ax (by simp) (SV.aZ _) (ax (by simp) (Dt.aj _ _) rfl)) (λ y hy=>by
   simp only[List.mem_cons,List.not_mem_nil,or_false] at hy;rcases hy with rfl|rfl<;>rfl)) ?_
 rintro⟨i,hi⟩;dsimp only
 by_cases hik:i<D.length
 .obtain⟨x,hx⟩:=aP hik
  have h1:decide ((i:Int)<D.length)=true:=by simp only[decide_eq_true_eq];omega
  have e2:IntKind.i64.wrap ((i:Int)+1)=((i+1:Nat):Int):=wrap_i64 _ (by omega);have hg:=D6 g h hx;have hs:=D7 g h hx;have next:∀ (env:List (Nat×SV)) (hp:Hp) (kz:Nat),(∀ z,z∈([(2,.arr 82 3 D.length (vT (j3 g h D (i+1)))),(0,.box 37 d.cells)]:Hp)->lk hp z.1=some z.2)->aL id 3 env [(8,i64 ((i+1:Nat):Int)),(7,.gs 2 D.length),(4,.ptr 0 0),(2,.d (.int .u8 (v:Int)))]->
    ∃ (j:{i:Nat // i<=D.length}) (ρ:Nat->Nat),D.length - j.1<D.length - i/\aH 0 ⟨env,hp,kz⟩ ⟨[(8,i64 j.1),(7,.gs 2 D.length),(4,.ptr 0 0),(2,.d (.int .u8 (v:Int)))],[(2,.arr 82 3 D.length (vT (j3 g h D j.1))),(0,.box 37 d.cells)],3⟩ ρ:=λ env hp kz g1 g2=>
   ⟨⟨i+1,by omega⟩,id,by show D.length - (i+1)<D.length - i;omega,aH.same (Nat.zero_le _) g2 (ax (by simp) (SV.aZ _) (ax (by simp) (Dt.aj _ _) rfl)) g1⟩
  refine SW.seq (SW.seq (SW.g0 du Zm h1 ?_));refine SW.an rfl (SW.skip (SW.seq (SW.block (SW.seq ?_))))
  by_cases hd:x=d
  .have h2:decide (x=d)=true:=by simp[hd]
   rw[hx1 x hd] at hs;rw[hd] at hs;have hg':=hg;rw[hd] at hg';have sp:=MR v hg';rw[hs] at sp;refine SW.g0 du Zm (Zq (vV hg) (Zq (r7 hg) (h2))) ?_;refine SW.an rfl ?_;refine SW.g0 du Zm (Zq sp (vW hg)) ?_;refine SW.g0 du Zm e2 ?_;exact next _ _ _ (λ z hz=>by
    simp only[List.mem_cons,List.not_mem_nil,or_false] at hz;rcases hz with rfl|rfl<;>rfl) (by simp[aL,List.lookup,SV.aC,SV.ok,SV.au])
  .have h2:decide (x=d)=false:=by simp[hd]
   rw[hx2 x hd] at hs;have hss:j3 g h D (i+1)=j3 g h D i:=by
    rw[<- hs];have hlt:=cu hg;have:(j3 g h D i)[i]=(x,g x):=by rw[List.getElem?_eq_getElem hlt] at hg;exact Option.some.inj hg
    rw[<- this,List.set_getElem_self]
   refine SW.g0 du Zm (Zq (vV hg) (Zq (r7 hg) (h2))) ?_;refine SW.ah rfl (SW.skip ?_);refine SW.g0 du Zm e2 ?_;exact next _ _ _ (λ z hz=>by
    rw[hss] at hz;simp only[List.mem_cons,List.not_mem_nil,or_false] at hz;rcases hz with rfl|rfl<;>rfl) (by simp[aL,List.lookup,SV.aC,SV.ok,SV.au])
 have h1:decide ((i:Int)<D.length)=false:=by simp only[decide_eq_false_iff_not];omega
 have hiD:i=D.length:=by omega
 subst hiD;rw[D4];refine SW.seq (SW.seq (SW.g0 du Zm h1 ?_));refine SW.ah rfl (SW.exit ?_);refine(?_:Sl.SW _ _ _ _ _ _);refine SW.seq (SW.g0 du Zm af ?_);refine SW.freeze 2 ((said h D).flatMap qm) rfl rfl ?_;simp only[iM,SV.gz,List.map_cons,List.map_nil,if_true,if_false,reduceIte,bY,Nat.reduceEqDiff];refine SW.ret ?_;have hl2:=gq h D;exact End.mk [] (h4:=⟨by show SV.d (.sl D.length _)=SV.d (.sl (said h D).length _);rw[hl2],rfl⟩)
theorem HI (g:Dt->Nat)(D:List Dt)(hD:D.length<1000000)(d:Dt)(v:Nat)(k:Nat):aF Tryz.prog ref19_with.f [wJ (said g D),.agg d.cells,.d (.int .u8 (v:Int))] [] k 0 (wJ (said (MQ g d v) D)) []:=(HH g D hD d v).sc rfl k
end
section
attribute [local irreducible] SW RW aF SC ai ak jN tF
def Ax (g:Dt->Nat)(ts:List Dt):Nat:=if (ts.any λ t=>decide (g t=2)) then 1 else 2
theorem D8 (g:Dt->Nat)(ts:List Dt)(t:Dt):Ax g (ts++[t])=if g t=2 then 1 else Ax g ts:=by
 unfold Ax;rw[List.any_append]
 by_cases h:g t=2<;>simp[h]
theorem HJ {ig:Dt->List Dt}{K:KM}{d:Dt}(h:∀ t,t∈ig d->t≠d):(vN ig K d).get=MQ K.get d (Ax K.get (ig d)):=by
 have hc:(j_ ig (K.put d 2) d).length>0↔((ig d).any λ t=>decide (K.get t=2))=true:=by
  unfold j_;rw[gt_iff_lt,List.length_pos_iff_exists_mem,List.any_eq_true];simp only[List.mem_filter,decide_eq_true_eq];constructor
  .rintro⟨t,h1,h2⟩
   rw[KM.c_,if_neg (h t h1)] at h2;exact⟨t,h1,h2⟩
  .rintro⟨t,h1,h2⟩
   exact⟨t,h1,by rw[KM.c_,if_neg (h t h1)];exact h2⟩
 funext e
 unfold vN Ax MQ
 by_cases hh:(j_ ig (K.put d 2) d).length>0
 .rw[if_pos hh,KM.c_,KM.c_,hc.1 hh]
  by_cases he:e=d<;>simp[he]
 .rw[if_neg hh,KM.c_]
  have:((ig d).any λ t=>decide (K.get t=2))=false:=by
   cases hb:((ig d).any λ t=>decide (K.get t=2)) with
   | false=>rfl
   | true=>exact absurd (hc.2 hb) hh
  rw[this]
  by_cases he:e=d<;>simp[he]
theorem HK (D:List Dt):(ia D).get=λ _=>0:=by
 funext d
 exact(Ar _ D rfl).2.2 d
theorem Km (g:Dt->Nat)(s:List Dt)(x:Dt):(said g (s++[x])).length=(said g s).length+ [(x,g x)].length:=by rw[gq,gq];simp
theorem MS (g:Dt->Nat)(s:List Dt)(x:Dt):vT (said g (s++[x]))=vT (said g s)++List.map SV.d ([(x,g x)].flatMap qm):=by simp[said,vT]
theorem Pz {P:Program}{env:List (Nat×SV)}{hp:Hp}{k d p:Nat}{g:Option (Nat×Bool)}{r:List SI}{K:St->List (Bool×List Nat)->Prop}(a:Dt×Nat)
  (hg:g=none\/∃ t w,g=some (t,w)/\env.lookup t=some (.d (.bool w))) (ha:env.lookup p=some (.agg (List.map SV.d (qm a))))
  (h:Go.Sl.RW P r ⟨(d,wJ [a])::env,hp,k⟩ λ st' ts=>K st' ((false,[])::ts)):Go.Sl.RW P (⟨some d,.kK 82 3 1 [.d (.int .u8 0),.d (.int .u32 0),.d (.int .u8 0)] [(0,3,.t p)],g⟩::r) ⟨env,hp,k⟩ K:=by
 refine RW.cons (e:=⟨wJ [a],[],[],0,(3=3/\0+3<=3/\True)⟩) (λ dQ=>⟨.gz::dQ,f_ hg ?_⟩) (by show(3=3/\0+3<=3/\True);decide) ?_
 .have h1:wL (λ t=>env.lookup t) [(0,3,X.t p)]=some [(0,3,.agg (List.map SV.d (qm a)))]:=by
   simp only[wL,ev,ha]
  have h2:mK [SV.d (.int .u8 0),SV.d (.int .u32 0),SV.d (.int .u8 0)] [(0,3,.agg (List.map SV.d (qm a)))]=some (List.map SV.d (qm a),(3=3/\0+3<=3/\True)):=rfl;have h3:e_ (List.map SV.d (qm a))=some ([a].flatMap qm):=rfl;have h4:(List.map SV.d (qm a)).all SV.dR=true:=rfl;simp only[fu,dK,h1,h2,h3,h4,if_true,Bool.false_or];rfl
 .exact h
section
variable {l:List ag} (hl:l.length<=80) (hd:∀ x,x∈l->x.aT<256/\x.mZ/\x.dot.wf)
include hl hd
set_option maxHeartbeats 16000000 in
theorem Kn:Go.Sl.Pure Tryz.prog ref19_All.f [ops l] (wJ (said (eB l) (o9 l))):=by
 refine ref19_All.enter (by first|rfl|simp[SV.ok,SV.au]) (by first|rfl|simp[Hp.ok,Ob.ok,SV.ok,SV.au,aB.aj]) (by simp) ?_;dsimp only[ref19_All.s,Co.M,Co.J,Co.F,Co.Z,Co.b8,Co.ay,Co.T,Co.K,Co.E,Co.L,Co.P,Co.Q,Co.R,Co.Y,Co.V,Co.D,Co.I,Co.S];have hDl:(o9 l).length<=80:=by
  have h2:(o9 l).length<=(l.map (·.dot)).length:=Dt.qH _;rw[List.length_map] at h2;omega
 refine SW.seq (SW.g0 ae Zm af ?_);refine SW.seq (SW.g0 ae Zm af ?_);refine SW.iN 3 37 2 rfl ?_;refine SW.seq (SW.seq (SW.g0 ae Zm af ?_));refine SW.block (SW.lG (α:={i:Nat // i<=l.length}) (λ i=>⟨[(4,i64 i.1),(3,.gs 0 ((l.take i.1).map (·.dot)).length),(0,ops l)],[(0,s9 ((l.take i.1).map (·.dot)) 0)],1⟩) (λ i=>l.length - i.1) ⟨0,by omega⟩ id af (round:= ?_));rintro⟨i,hi⟩;dsimp only
 by_cases h:i<l.length
 .obtain⟨x,hx⟩:=aP h
  have h1:decide ((i:Int)<l.length)=true:=by simp only[decide_eq_true_eq];omega
  have e2:IntKind.i64.wrap ((i:Int)+1)=((i+1:Nat):Int):=wrap_i64 _ (by omega);have fq:((l.take i).map (·.dot)).length<=80:=by rw[List.length_map,List.length_take];omega
  have hsn:(l.take (i+1)).map (·.dot)=(l.take i).map (·.dot)++[x.dot]:=by rw[bt hx,List.map_append];rfl
  generalize (l.take i).map (·.dot)=s at hsn fq ⊢;refine SW.seq (SW.seq (SW.g0 ae Zm h1 ?_));refine SW.an rfl (SW.skip (SW.seq (SW.block (SW.g0 ae Zm (Zq (n_ hx) (lJ hx)) ?_))));refine SW.g0 ae Zm e2 ?_;refine⟨⟨i+1,by omega⟩,λ n=>if n=0 then 1 else n,by show l.length - (i+1)<_;omega,?_⟩;dsimp only;rw[hsn];exact aH.mk (Zq (He s x.dot) (JR s x.dot))
 have h1:decide ((i:Int)<l.length)=false:=by simp only[decide_eq_false_iff_not];omega
 have h2:i=l.length:=by omega
 subst h2;rw[List.take_length];have hs:=z7 (l.map (·.dot)) (by rw[List.length_map];omega) (λ v hv=>by
  obtain⟨o,ho,rfl⟩:=List.mem_map.1 hv;exact(hd o ho).2.2)
 refine SW.seq (SW.seq ?_);refine SW.g0 ae Zm h1 ?_;refine SW.ah rfl (SW.exit ?_);refine(?_:Sl.SW _ _ _ _ _ _);refine SW.freeze 0 ((l.map (·.dot)).flatMap Dt.ds) rfl rfl ?_;simp only[iM,SV.gz,List.map_cons,List.map_nil,if_true,if_false,reduceIte,bY,Nat.reduceEqDiff];refine SW.seq ?_;refine SW.g1 ae Zm af hs ?_;have hVi:=Bw (ig:=bE l) (gv:=Ho l) (ds:=o9 l) (L:=(jr l).flatten) (λ d hd=>rW (lS.1 hd));have hV:dY l=yQ (bE l) (ia (o9 l)) (jr l).flatten:=rfl;have hVg:(dY l).get=eB l:=funext (fU l);obtain⟨D,eD⟩:∃ D,o9 l=D:=⟨_,rfl⟩;have eD':Dt.set (l.map (·.dot))=D:=eD;simp only[eD'];rw[eD] at hV hDl;refine SW.seq ?_;refine SW.g0 ae Zm af ?_;refine SW.iN 5 82 3 rfl ?_;refine SW.seq (SW.seq ?_);refine SW.g0 ae Zm af ?_;refine SW.block ?_;refine SW.loop (α:={i:Nat // i<=D.length}) (λ i=>⟨[(6,i64 i.1),(5,.gs 1 (said (λ _=>0) (D.take i.1)).length),(3,bg D),(0,ops l)],[(1,.arr 82 3 (said (λ _=>0) (D.take i.1)).length (vT (said (λ _=>0) (D.take i.1))))],2⟩) (λ i=>D.length - i.1) ⟨0,by omega⟩ id (aH.same (Nat.zero_le _) (by simp[aL,List.lookup,SV.aC,SV.ok,SV.au,said]) (by simp[Hp.ok,Ob.ok,SV.aZ]) (λ y hy=>by
  rw[List.mem_singleton] at hy;subst hy;rfl)) ?_
 rintro⟨i,hi⟩;dsimp only
 by_cases h:i<D.length
 .obtain⟨x,hx⟩:=aP h
  have h1:decide ((i:Int)<D.length)=true:=by simp only[decide_eq_true_eq];omega
  have e2:IntKind.i64.wrap ((i:Int)+1)=((i+1:Nat):Int):=wrap_i64 _ (by omega);have fq:(said (λ _=>0) (D.take i)).length<=80:=by rw[gq,List.length_take];omega
  have s1:=Km (λ _=>0) (D.take i) x;have s2:=MS (λ _=>0) (D.take i) x;rw[<- bt hx] at s1 s2;generalize said (λ _=>0) (D.take i)=s at s1 s2 fq ⊢;have sl1:=r6 [(x,0)];have z3:cq [SV.d (.int .u8 0),.d (.int .u32 0),.d (.int .u8 0)] 0 x.cells=List.map SV.d (qm (x,0)):=rfl;refine SW.seq (SW.seq (SW.g0 ae Zm h1 ?_));refine SW.an rfl (SW.skip (SW.seq (SW.block ?_)))
  (have fx:=(Zq (b_ hx) (Zq (eA hx) (Zq z3 sl1)));refine SW.bG ae Zm ?_;(repeat (first|refine Pz (x,0) (.inl rfl) rfl (h:=?_)|refine RW.ro fx (h:=?_)|refine RW.skip (h:=?_)|refine RW.op fx (h:=?_)|refine RW.di fx (h:=?_)|refine RW.aR (h:=?_)));refine RW.nil ⟨cB (by kernel_rfl),ak.mk (h:=?_)⟩)
  refine SW.g0 ae Zm e2 ?_;refine⟨⟨i+1,by omega⟩,λ n=>if n=1 then 2 else n,by show D.length - (i+1)<_;omega,?_⟩;dsimp only;rw[s1,s2];exact aH.mk af
 have h1:decide ((i:Int)<D.length)=false:=by simp only[decide_eq_false_iff_not];omega
 rw[List.take_of_length_le (show D.length<=i by omega)];refine SW.seq (SW.seq (SW.g0 ae Zm h1 ?_));refine SW.ah rfl (SW.exit ?_);refine(?_:Sl.SW _ _ _ _ _ _);refine SW.freeze 1 ((said (λ _=>0) D).flatMap qm) rfl rfl ?_;simp only[iM,SV.gz,List.map_cons,List.map_nil,if_true,if_false,reduceIte,bY,Nat.reduceEqDiff];have cL:=λ k=>(Bp hl hd).sc rfl k
 have hc9:∀ v,eP l v<=9:=λ v=>rS hl hd _
 have hRl:=G8 l hc9;have hRs:∀ L,L∈jr l->L.length<=80/\∀ d,d∈L->bJ l d=true:=λ L hL=>by
  refine⟨?_,λ d hd=>lS.1 (List.mem_flatten.2 ⟨L,hL,hd⟩)⟩;obtain⟨j,_,rfl⟩:=List.mem_map.1 hL;have h2:=List.length_filter_le (λ v=>decide (eP l v=j)) (bn l);have h3:=pq l;omega
 have hT:=λ d k=>xN hl hd d k
 obtain⟨R,eR⟩:∃ R,jr l=R:=⟨_,rfl⟩;rw[eR] at hV cL hRl hRs;refine SW.seq (SW.g1 ae Zm af cL ?_);refine SW.seq (SW.seq ?_);simp only[qj];refine SW.g0 ae Zm af ?_;refine SW.block ?_;have hg0:(ia D).get=λ _=>0:=HK D
 have hthr:∀ d t,t∈bE l d->t≠d:=λ d t ht e=>by
  have:=pY ht;rw[e] at this;omega
 have hin:∀ d t,t∈bE l d->t∈D:=λ d t ht=>by rw[<- eD];exact rW (vL ht)
 have hTl:∀ d,(bE l d).length<=80:=λ d=>by
  unfold bE
  split
  .have h2:=List.length_filter_le (j7 l d) (bn l)
   have h3:=pq l;omega
  .exact Nat.zero_le _
 rw[<- hg0];obtain⟨Z,eZ⟩:∃ Z,ia D=Z:=⟨_,rfl⟩;rw[eZ] at hV ⊢;have hDm:D.length<1000000:=by omega
 refine SW.loop (α:={k:Nat // k<=R.length}) (λ k=>⟨[(8,i64 k.1),(7,qj R),(5,wJ (said (yQ (bE l) Z (R.take k.1).flatten).get D)),(0,ops l)],[],2⟩) (λ k=>R.length - k.1) ⟨0,Nat.zero_le _⟩ id (aH.same (Nat.zero_le _) (by simp[aL,List.lookup,SV.aC,SV.ok,SV.au,qj,yQ]) rfl (λ y hy=>by cases hy)) ?_;rintro⟨k,hk⟩;dsimp only
 by_cases hkk:k<R.length
 .have h3 :decide ((k:Int)<R.length)=true:=by simp only[decide_eq_true_eq];omega
  obtain⟨L,hx⟩:=aP hkk;have e2:IntKind.i64.wrap ((k:Int)+1)=((k+1:Nat):Int):=wrap_i64 _ (by omega);obtain⟨hL80,hLg⟩:=hRs L (List.mem_of_getElem? hx);have g1:(List.map SV.d (R.map Cp))[k]? =some (.d (Cp L)):=by rw[List.getElem?_map,List.getElem?_map,hx];rfl
  have hft:=gw hx;simp only[qj];refine SW.seq (SW.seq ?_);refine SW.g0 ae Zm h3 ?_;refine SW.an rfl (SW.skip ?_);refine SW.seq (SW.block (SW.seq ?_));refine SW.g0 ae Zm af ?_;refine SW.block ?_;refine SW.loop (α:={i:Nat // i<=L.length}) (λ i=>⟨[(9,i64 i.1),(8,i64 k),(7,qj R),(5,wJ (said (yQ (bE l) Z ((R.take k).flatten++L.take i.1)).get D)),(0,ops l)],[],2⟩) (λ i=>L.length - i.1) ⟨0,Nat.zero_le _⟩ id (by
   dsimp only;rw[List.take_zero,List.append_nil];exact aH.same (Nat.zero_le _) (by simp[aL,List.lookup,SV.aC,SV.ok,SV.au,qj]) rfl (λ y hy=>by cases hy)) ?_
  rintro⟨i,hi⟩;dsimp only;simp only[qj]
  by_cases hil:i<L.length
  .have h4:decide ((i:Int)<L.length)=true:=by simp only[decide_eq_true_eq];omega
   obtain⟨d,hd'⟩:=aP hil;have e4:IntKind.i64.wrap ((i:Int)+1)=((i+1:Nat):Int):=wrap_i64 _ (by omega);have g2:(List.map SV.d (R.map Cp))[k]? =some (bg L):=by
    rw[g1];cases L with
    | nil=>cases hd'
    | cons a L=>rfl
   have hvs:=vP (bE l) Z ((R.take k).flatten++L.take i) d;rw[List.append_assoc,<- bt hd'] at hvs;have hst:=HJ (ig:=bE l) (K:=yQ (bE l) Z ((R.take k).flatten++L.take i)) (d:=d) (hthr d);rw[<- hvs] at hst;have next:∀ (env:List (Nat×SV)) (hp:Hp) (kz:Nat),aL id 2 env [(9,i64 ((i+1:Nat):Int)),(8,i64 k),(7,.d (.sl R.length (R.map Cp))),(5,wJ (said (yQ (bE l) Z ((R.take k).flatten++L.take (i+1))).get D)),(0,ops l)]->
     ∃ (j:{i:Nat // i<=L.length}) (ρ:Nat->Nat),L.length - j.1<L.length - i/\aH 0 ⟨env,hp,kz⟩ ⟨[(9,i64 j.1),(8,i64 k),(7,.d (.sl R.length (R.map Cp))),(5,wJ (said (yQ (bE l) Z ((R.take k).flatten++L.take j.1)).get D)),(0,ops l)],[],2⟩ ρ:=λ env hp kz g=>
    ⟨⟨i+1,by omega⟩,id,by show L.length - (i+1)<L.length - i;omega,aH.same (Nat.zero_le _) g rfl (λ y hy=>by cases hy)⟩
   rw[hst] at next
   generalize (yQ (bE l) Z ((R.take k).flatten++L.take i)).get=gK at next ⊢
   have cT:=hT d;obtain⟨T,eT⟩:∃ T,bE l d=T:=⟨_,rfl⟩;have hTd:=hTl d;have hTi:=hin d;rw[eT] at cT next hTd hTi
   have cW:=HI gK D hDm d (Ax gK T);refine SW.seq (SW.seq (SW.g0 ae Zm (Zq g2 h4) ?_));refine SW.an rfl (SW.skip (SW.seq (SW.block (SW.seq (SW.g0 ae Zm af ?_)))));refine SW.seq (SW.g1 ae Zm (Zq g2 (Zq (b_ hd') (eA hd'))) cT ?_);refine SW.seq (SW.seq (SW.g0 ae Zm af ?_));refine SW.block (SW.loop (α:={j:Nat // j<=T.length}) (λ j=>⟨[(13,i64 j.1),(11,bg T),(10,.d (.int .u8 (Ax gK (T.take j.1):Nat))),(9,i64 i),(8,i64 k),(7,.d (.sl R.length (R.map Cp))),(5,wJ (said gK D)),(0,ops l)],[],2⟩) (λ j=>T.length - j.1) ⟨0,Nat.zero_le _⟩ id (aH.same (Nat.zero_le _) (by simp[aL,List.lookup,SV.aC,SV.ok,SV.au,Ax]) rfl (λ y hy=>by cases hy)) ?_);rintro⟨j,hj⟩;dsimp only
   by_cases hjt:j<T.length
   .have h5:decide ((j:Int)<T.length)=true:=by simp only[decide_eq_true_eq];omega
    obtain⟨t,ht⟩:=aP hjt;have e5:IntKind.i64.wrap ((j:Int)+1)=((j+1:Nat):Int):=wrap_i64 _ (by omega);have cA:=HG gK D hDm t;have hsv:Aw gK D t=gK t:=by unfold Aw;rw[if_pos (hTi t (List.mem_of_getElem? ht))]
    rw[hsv] at cA;have hsn:=D8 gK (T.take j) t;rw[<- bt ht] at hsn;refine SW.seq (SW.seq (SW.g0 ae Zm h5 ?_));refine SW.an rfl (SW.skip (SW.seq (SW.block (SW.seq ?_))))
    by_cases h2:gK t=2
    .rw[if_pos h2] at hsn
     have z2:(((gK t:Nat):Int) == 2)=true:=by rw[h2];rfl
     refine SW.g1 ae Zm (Zq (b_ ht) (Zq (eA ht) (z2))) cA ?_;refine SW.an rfl (SW.g0 ae Zm af ?_);refine SW.g0 ae Zm e5 ?_;exact⟨⟨j+1,by omega⟩,id,by show T.length - (j+1)<T.length - j;omega,aH.same (Nat.zero_le _) (by dsimp only;rw[hsn];simp[aL,List.lookup,SV.aC,SV.ok,SV.au]) rfl (λ y hy=>by cases hy)⟩
    .rw[if_neg h2] at hsn
     have z2:(((gK t:Nat):Int) == 2)=false:=by
      have:((gK t:Nat):Int)≠2:=by omega
      simpa using this
     refine SW.g1 ae Zm (Zq (b_ ht) (Zq (eA ht) (z2))) cA ?_;refine SW.ah rfl (SW.skip (SW.g0 ae Zm e5 ?_));exact⟨⟨j+1,by omega⟩,id,by show T.length - (j+1)<T.length - j;omega,aH.same (Nat.zero_le _) (by dsimp only;rw[hsn];simp[aL,List.lookup,SV.aC,SV.ok,SV.au]) rfl (λ y hy=>by cases hy)⟩
   have h5:decide ((j:Int)<T.length)=false:=by simp only[decide_eq_false_iff_not];omega
   rw[List.take_of_length_le (show T.length<=j by omega)];refine SW.seq (SW.seq (SW.g0 ae Zm h5 ?_));refine SW.ah rfl (SW.exit ?_);refine(?_:Sl.SW _ _ _ _ _ _);refine SW.g1 ae Zm (Zq g2 (Zq (b_ hd') (eA hd'))) cW ?_;refine SW.g0 ae Zm e4 ?_;exact next _ _ _ (by simp[aL,List.lookup,SV.aC,SV.ok,SV.au])
  rw[List.take_of_length_le (show L.length<=i by omega),<- hft];have next:∀ (env:List (Nat×SV)) (hp:Hp) (kz:Nat),aL id 2 env [(8,i64 ((k+1:Nat):Int)),(7,.d (.sl R.length (R.map Cp))),(5,wJ (said (yQ (bE l) Z (R.take (k+1)).flatten).get D)),(0,ops l)]->
    ∃ (j:{k:Nat // k<=R.length}) (ρ:Nat->Nat),R.length - j.1<R.length - k/\aH 0 ⟨env,hp,kz⟩ ⟨[(8,i64 j.1),(7,.d (.sl R.length (R.map Cp))),(5,wJ (said (yQ (bE l) Z (R.take j.1).flatten).get D)),(0,ops l)],[],2⟩ ρ:=λ env hp kz g=>
   ⟨⟨k+1,by omega⟩,id,by show R.length - (k+1)<R.length - k;omega,aH.same (Nat.zero_le _) g rfl (λ y hy=>by cases hy)⟩
  refine SW.seq (SW.seq ?_);cases L with
  | nil=>
   have g0:(List.map SV.d (R.map Cp))[k]? =some (.d .aG):=g1;have h4:decide ((i:Int)<0)=false:=by simp only[decide_eq_false_iff_not];omega
   refine SW.g0 ae Zm (Zq g0 h4) ?_;refine SW.ah rfl (SW.exit ?_);refine(?_:Sl.SW _ _ _ _ _ _);refine SW.g0 ae Zm e2 ?_;exact next _ _ _ (by simp[aL,List.lookup,SV.aC,SV.ok,SV.au])
  | cons a L=>
   have g0:(List.map SV.d (R.map Cp))[k]? =some (bg (a::L)):=g1;have h4:decide ((i:Int)<(a::L).length)=false:=by simp only[decide_eq_false_iff_not];omega
   generalize (a::L)=M at g0 h4;refine SW.g0 ae Zm (Zq g0 h4) ?_;refine SW.ah rfl (SW.exit ?_);refine(?_:Sl.SW _ _ _ _ _ _);refine SW.g0 ae Zm e2 ?_;exact next _ _ _ (by simp[aL,List.lookup,SV.aC,SV.ok,SV.au])
 have h3:decide ((k:Int)<R.length)=false:=by simp only[decide_eq_false_iff_not];omega
 rw[List.take_of_length_le (show R.length<=k by omega),<- hV,hVg];simp only[qj];refine SW.seq (SW.seq (SW.g0 ae Zm h3 ?_));refine SW.ah rfl (SW.exit ?_);refine(?_:Sl.SW _ _ _ _ _ _);refine SW.seq (SW.g0 ae Zm af ?_);refine SW.ret ?_;exact End.mk [] (h4:=⟨rfl,rfl⟩)
theorem Cw (k:Nat):aF Tryz.prog ref19_All.f [ops l] [] k 0 (wJ (said (eB l) (o9 l))) []:=(Kn hl hd).sc rfl k
end
end
section
attribute [local irreducible] SW RW aF SC ai ak jN tF
theorem Ko (l:List ag)(d:Dt):Aw (eB l) (o9 l) d=eB l d:=by
 unfold Aw
 by_cases h:d∈o9 l
 .rw[if_pos h]
 .rw[if_neg h]
  unfold eB;rw[if_neg λ hg=>h (rW hg)]
theorem Ay {l:List ag}{d:Dt}:eB l d=0↔bJ l d=false:=by
 unfold eB;cases bJ l d<;>cases Ho l d<;>simp
noncomputable def tg (l:List ag)(ts:List Dt):List Dt:=ts.filter λ t=>decide (eB l t=2)
theorem D9 (l:List ag)(ts:List Dt)(t:Dt):tg l (ts++[t])=if eB l t=2 then tg l ts++[t] else tg l ts:=by
 unfold tg;rw[List.filter_append]
 by_cases h:eB l t=2<;>simp[h]
theorem HL (l:List ag)(d:Dt):tg l (bE l d)=j_ (bE l) (dY l) d:=by
 unfold tg j_;refine List.filter_congr λ t _=> ?_
 rw[fU]
section
variable {l:List ag} (hl:l.length<=80) (hd:∀ x,x∈l->x.aT<256/\x.mZ/\x.dot.wf)
include hl hd
set_option maxHeartbeats 8000000 in
theorem HM (d:Dt):Go.Sl.Pure Tryz.prog ref19_Hits.f [ops l,.agg d.cells] (lT l d):=by
 have cAll:=Cw hl hd;have cT:=λ k=>xN hl hd d k
 have hDl:(o9 l).length<1000000:=by
  have h2:(o9 l).length<=(l.map (·.dot)).length:=Dt.qH _;rw[List.length_map] at h2;omega
 have cA:=λ t k=>HG (eB l) (o9 l) hDl t k
 simp only[Ko] at cA;have hTl:(bE l d).length<=80:=by
  unfold bE
  split
  .have h2:=List.length_filter_le (j7 l d) (bn l)
   have h3:=pq l;omega
  .exact Nat.zero_le _
 have hH:=HL l d;unfold lT;rw[<- hH];generalize o9 l=D at cAll cA;refine ref19_Hits.enter (by first|rfl|simp[SV.ok,SV.au]) (by first|rfl|simp[Hp.ok,Ob.ok,SV.ok,SV.au,aB.aj]) (by simp) ?_;dsimp only[ref19_Hits.s,Co.M,Co.J,Co.F,Co.Z,Co.b8,Co.ay,Co.K,Co.E,Co.L,Co.P,Co.Q,Co.x,Co.Y,Co.V,Co.I,Co.S];refine SW.seq (SW.g0 cY Zm af ?_);refine SW.seq (SW.g1 cY Zm af cAll ?_);refine SW.seq (SW.seq ?_);have cAd:=cA d;cases hg:bJ l d with
 | false=>
  have z0:(((eB l d:Nat):Int) == 0)=true:=by rw[Ay.2 hg];rfl
  refine SW.g1 cY Zm z0 cAd ?_;refine SW.an rfl (SW.seq (SW.g0 cY Zm af ?_));refine SW.ret ?_;exact End.mk [] (h4:=⟨rfl,rfl⟩)
 | true=>
  have z0:(((eB l d:Nat):Int) == 0)=false:=by
   have:((eB l d:Nat):Int)≠0:=λ e=>by
    have:eB l d=0:=by omega
    rw[Ay,hg] at this;cases this
   simpa using this
  refine SW.g1 cY Zm z0 cAd ?_;refine SW.ah rfl (SW.skip ?_);rw[hg] at cT;generalize bE l d=T at cT hTl ⊢;refine SW.seq ?_;refine SW.g1 cY Zm af cT ?_;refine SW.seq ?_;refine SW.g0 cY Zm af ?_;refine SW.iN 9 37 2 rfl ?_;refine SW.seq (SW.seq ?_);refine SW.g0 cY Zm af ?_;refine SW.block ?_;refine SW.loop (α:={i:Nat // i<=T.length}) (λ i=>⟨[(10,i64 i.1),(9,.gs 1 (tg l (T.take i.1)).length),(7,bg T),(6,wJ (said (eB l) D))],[(1,s9 (tg l (T.take i.1)) 1)],2⟩) (λ i=>T.length - i.1) ⟨0,Nat.zero_le _⟩ id (aH.same (Nat.zero_le _) (by simp[aL,List.lookup,SV.aC,SV.ok,SV.au,tg]) (by simp[Hp.ok,Ob.ok,SV.aZ]) (λ y hy=>by
   rw[List.mem_singleton] at hy;subst hy;rfl)) ?_
  rintro⟨i,hi⟩;dsimp only
  by_cases h:i<T.length
  .obtain⟨t,ht⟩:=aP h
   have h1:decide ((i:Int)<T.length)=true:=by simp only[decide_eq_true_eq];omega
   have e2:IntKind.i64.wrap ((i:Int)+1)=((i+1:Nat):Int):=wrap_i64 _ (by omega);have hsn:=D9 l (T.take i) t;rw[<- bt ht] at hsn;have fq:(tg l (T.take i)).length<=80:=by
    have h2:=List.length_filter_le (λ t=>decide (eB l t=2)) (T.take i);rw[List.length_take] at h2;unfold tg;omega
   generalize tg l (T.take i)=s at hsn fq ⊢;have cAt:=cA t;refine SW.seq (SW.seq (SW.g0 cY Zm h1 ?_));refine SW.an rfl (SW.skip (SW.seq (SW.block (SW.seq ?_))))
   by_cases h2:eB l t=2
   .rw[if_pos h2] at hsn
    have z2:(((eB l t:Nat):Int) == 2)=true:=by rw[h2];rfl
    refine SW.g1 cY Zm (Zq (b_ ht) (Zq (eA ht) (z2))) cAt ?_;refine SW.an rfl (SW.g0 cY Zm (Zq (b_ ht) (eA ht)) ?_);refine SW.g0 cY Zm e2 ?_;refine⟨⟨i+1,by omega⟩,λ n=>if n=1 then 2 else n,by show T.length - (i+1)<T.length - i;omega,?_⟩;dsimp only;rw[hsn];exact aH.mk (Zq (rT s t) (vE s t))
   .rw[if_neg h2] at hsn
    have z2:(((eB l t:Nat):Int) == 2)=false:=by
     have:((eB l t:Nat):Int)≠2:=by omega
     simpa using this
    refine SW.g1 cY Zm (Zq (b_ ht) (Zq (eA ht) (z2))) cAt ?_;refine SW.ah rfl (SW.skip (SW.g0 cY Zm e2 ?_));refine⟨⟨i+1,by omega⟩,id,by show T.length - (i+1)<T.length - i;omega,?_⟩;dsimp only;rw[hsn];exact aH.mk af
  have h1:decide ((i:Int)<T.length)=false:=by simp only[decide_eq_false_iff_not];omega
  rw[List.take_of_length_le (show T.length<=i by omega)];refine SW.seq (SW.seq (SW.g0 cY Zm h1 ?_));refine SW.ah rfl (SW.exit ?_);refine(?_:Sl.SW _ _ _ _ _ _);refine SW.seq (SW.g0 cY Zm af ?_);generalize tg l T=H;refine SW.freeze 1 (H.flatMap Dt.ds) rfl rfl ?_;simp only[iM,SV.gz,List.map_cons,List.map_nil,if_true,if_false,reduceIte,bY,Nat.reduceEqDiff];refine SW.ret ?_;exact End.mk [] (h4:=⟨rfl,rfl⟩)
theorem HN (d:Dt)(k:Nat):aF Tryz.prog ref19_Hits.f [ops l,.agg d.cells] [] k 0 (lT l d) []:=(HM hl hd d).sc (by unfold lT;split<;>rfl) k
end
set_option maxHeartbeats 16000000 in
theorem Az (l:List ag)(d:Dt)(hd:∀ o,o∈l->o.aT<256/\o.kind<256/\o.mZ/\o.dot.wf/\o.cl.length<=140737488351232)(hlen:l.length<=9223372036854775807):
  SB Tryz.prog law19_VerdictTells.f [ops l,.agg d.cells] [] 0 0 (λ r F=>r=bl true):=by
 refine law19_VerdictTells.enter (by first|rfl|simp[SV.ok,SV.au]) (by first|rfl|simp[Hp.ok,Ob.ok,SV.ok,SV.au,aB.aj]) (by simp) ?_;dsimp only[law19_VerdictTells.s,Co.M,Co.G,Co.J,Co.H,Co.F,Co.C,Co.Z,Co.B,Co.b8,Co.T,Co.K,Co.E,Co.L,Co.P,Co.Q,Co.x,Co.Y,Co.V,Co.U,Co.D,Co.I,Co.S];have hG':=E9 l (λ o ho=>⟨_,_,(hd o ho).2.2.1.eq,(hd o ho).2.2.1.le⟩) hlen;refine SW.seq (SW.g0 bm Zm af ?_);refine SW.seq (SW.seq ?_);rcases hG:jK l with _|_
 rotate_left
 .rw[hG] at hG'
  refine SW.g2 bm Zm af hG' mX ?_;refine SW.an rfl (SW.seq (SW.g2 bm Zm af hG' mX ?_));refine SW.ret ?_;exact End.mk [] (h4:=rfl)
 rw[hG] at hG';have wI:=xq hG;have hd':=Ah hG (λ o ho=>⟨(hd o ho).2.2.1,(hd o ho).2.2.2.2⟩);have hd3:∀ o,o∈l->o.aT<256/\o.mZ/\o.dot.wf:=λ o ho=>⟨(hd o ho).1,(hd o ho).2.2.1,(hd o ho).2.2.2.1⟩
 have hrow:o8 l:=λ o ho=>⟨(hd o ho).2.1,(hd o ho).2.2.1,hd' o ho⟩
 rcases h60:decide ((l.length:Int)>60) with _|_
 rotate_left
 .skip
  refine SW.g2 bm Zm h60 hG' mX ?_;refine SW.an rfl (SW.seq (SW.g2 bm Zm af hG' mX ?_));refine SW.ret ?_;exact End.mk [] (h4:=rfl)
 refine SW.g1 bm Zm h60 hG' ?_;refine SW.ah rfl (SW.skip ?_);have cO:=Hv l wI hrow 1;have cAll:=Cw wI hd3;have cV:=Av l wI hrow d;have cR:=HN wI hd3 d;have hKg:∀ e,(dY l).get e=eB l e:=fU l;have hKp:=(td l).length_eq;have hKm:(MM.keys (dY l).m).length=(dY l).m.length:=by simp[MM.keys]
 rw[hKm] at hKp;have hH:(j_ (bE l) (dY l) d).length<1000000000:=by
  have h1:=List.length_filter_le (λ t=>decide ((dY l).get t=2)) (bE l d);have hTl:(bE l d).length<=80:=by
   unfold bE
   split
   .have h2:=List.length_filter_le (j7 l d) (bn l)
    have h3:=pq l;omega
   .exact Nat.zero_le _
  unfold j_;omega
 have hDl:(o9 l).length<1000000:=by
  have h2:(o9 l).length<=(l.map (·.dot)).length:=Dt.qH _;rw[List.length_map] at h2;omega
 have hcV:∃ A e,lT l d= .de [A,.d (.int .i64 e)]/\∀ k,aF Tryz.prog ref03_Same.f [A,A] [] k 0 (bl true) []:=by
  unfold lT
  split
  .exact⟨_,0,rfl,Ao _ hH⟩
  .exact⟨_,7,rfl,DI⟩
 obtain⟨A,e,hA,cS⟩:=hcV;rw[hA] at cV cR;clear hA hH;generalize dY l=K at cO hKg hKp hKm;generalize o9 l=D at cAll hKp hDl;have hlen2:=gq (eB l) D;refine SW.seq ?_;refine SW.g2 bm Zm af cO cAll ?_;refine SW.weak id (st1:=⟨[(6,wJ (said (eB l) D)),(5,.mp 1),(3,.ptr 0 0),(0,ops l)],[(1,xP K),(0,.box 37 d.cells)],2⟩) (aH.same (Nat.zero_le _) (by simp[aL,List.lookup,SV.aC,SV.ok,SV.au]) (by simp[Hp.ok,Ob.ok,eN,Dt.aj]) (λ y hy=>by
  simp only[List.mem_cons,List.not_mem_nil,or_false] at hy;rcases hy with rfl|rfl<;>rfl)) ?_
 have m1:((K.m.length:Int) != ((said (eB l) D).length:Int))=false:=by rw[hlen2,hKp];simp
 refine SW.seq (SW.seq ?_);refine SW.g0 bm Zm m1 ?_;refine SW.ah rfl (SW.skip ?_);refine SW.seq (SW.seq ?_);refine SW.g0 bm Zm af ?_;refine SW.block ?_;refine SW.loop (α:={i:Nat // i<=D.length}) (λ i=>⟨[(7,i64 i.1),(6,wJ (said (eB l) D)),(5,.mp 1),(3,.ptr 0 0),(0,ops l)],[(1,xP K),(0,.box 37 d.cells)],2⟩) (λ i=>D.length - i.1) ⟨0,Nat.zero_le _⟩ id (aH.same (Nat.zero_le _) (by simp[aL,List.lookup,SV.aC,SV.ok,SV.au]) (by simp[Hp.ok,Ob.ok,eN,Dt.aj]) (λ y hy=>by
  simp only[List.mem_cons,List.not_mem_nil,or_false] at hy;rcases hy with rfl|rfl<;>rfl)) ?_
 rintro⟨i,hi⟩;dsimp only
 by_cases h:i<D.length
 .obtain⟨x,hx⟩:=aP h
  have h1:decide ((i:Int)<(said (eB l) D).length)=true:=by rw[hlen2];simp only[decide_eq_true_eq];omega
  have e2:IntKind.i64.wrap ((i:Int)+1)=((i+1:Nat):Int):=wrap_i64 _ (by omega);have hg:=vU (eB l) hx;have hpl:=cu hg;have hlk:=uq (hKg x);have hne:(((eB l x:Nat):Int) != ((eB l x:Nat):Int))=false:=by simp
  have hsv:=Ow hg;dsimp only at hsv;generalize ((eB l x:Nat):Int)=w at hlk hne hsv;refine SW.seq (SW.seq ?_);refine SW.g0 bm Zm h1 ?_;refine SW.an rfl (SW.skip ?_);refine SW.seq (SW.block (SW.seq ?_));refine SW.g0 bm Zm (Zq (vV hg) (Zq (r7 hg) (Zq hlk (Zq hsv (Zq (vW hg) (hne)))))) ?_;refine SW.ah rfl (SW.skip ?_);refine SW.g0 bm Zm e2 ?_;exact⟨⟨i+1,by omega⟩,id,by show D.length - (i+1)<_;omega,aH.same (Nat.zero_le _) (by simp[aL,List.lookup,SV.aC,SV.ok,SV.au]) (by simp[Hp.ok,Ob.ok,eN,Dt.aj]) (λ y hy=>by
   simp only[List.mem_cons,List.not_mem_nil,or_false] at hy;rcases hy with rfl|rfl<;>rfl)⟩
 have h1:decide ((i:Int)<(said (eB l) D).length)=false:=by rw[hlen2];simp only[decide_eq_false_iff_not];omega
 refine SW.seq (SW.seq (SW.g0 bm Zm h1 ?_));refine SW.ah rfl (SW.exit ?_);refine(?_:Sl.SW _ _ _ _ _ _);refine SW.seq (SW.g1 bm Zm af cV ?_);refine SW.seq (SW.g1 bm Zm af cR ?_);have ee:(e == e)=true:=by simp
 refine SW.seq (SW.g2 bm Zm ee cS mX ?_);refine SW.ret ?_;exact End.mk [] (h4:=rfl)
end
end Go.Proofs.YtaelhkkjgfobhaaGreat
