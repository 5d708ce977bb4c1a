/-
 Verdicts: the head's row and its beginnings (plain).
-/
import Derived.SizedLaws
import Derived.Test.YtaelhkkjgfobhaaGreatSG
set_option linter.unusedSectionVars false
set_option linter.unusedVariables false
set_option linter.unusedSimpArgs false
namespace Go.Proofs.YtaelhkkjgfobhaaGreat
open Go.Sl Go.Proofs
section
theorem nt {l:List ag}{d:Dt}(hg:dD l d=true)(ht:dz l d=[]):Cs l d=true/\jv l d=2:=by
 have:Cs l d=true:=by rw[tK,ht];rfl
 exact⟨this,by unfold jv;rw[if_pos hg,if_pos this]⟩
theorem QN:jv bp ⟨0,1⟩=2:=(nt PY QH).2
theorem QO:jv bp ⟨0,2⟩=2:=(nt PZ QI).2
theorem Qq:jv bp ⟨0,3⟩=2:=(nt P0 QJ).2
theorem Qr:jv bp ⟨1,1⟩=2:=(nt Pg Qn).2
theorem P4:jv bp ⟨0,4⟩=1:=by
 have h5:=(nt Pg Qn).1;have:Cs bp ⟨0,4⟩=false:=by rw[tK,Qm];simp[h5]
 unfold jv;rw[if_pos Pf,if_neg (by rw[this];decide)]
theorem yA (l:List ag):(MM.keys (dQ l).m).Perm (qB l):=
 (List.perm_ext_iff_of_nodup (qm l).wf.keys (qV _)).2 λ d=>by rw[<- MM.iu];exact(qm l).keys d
theorem sC (l:List ag)(d:Dt):MM.has (dQ l).m d=decide (d∈qB l):=by
 rw[Bool.eq_iff_iff,decide_eq_true_eq];exact(qm l).keys d
theorem QS:(dQ bp).m.length=5:=by
 have h:=(yA bp).length_eq;rw[Cg] at h;have h3:(MM.keys (dQ bp).m).length=(dQ bp).m.length:=by simp[MM.keys]
 rw[<- h3,h];rfl
theorem KC (i:Nat)(hi:i<=4):Part (bp.take i) bp:=by
 have hu:j8 bp:=by unfold j8;decide
 refine⟨hu,hu.sub (List.take_sublist _ _),λ o ho=>List.mem_of_mem_take ho,λ o a ho ha hb=> ?_⟩
 match i,hi with
 | 0,_=>cases ho
 | 1,_=>
  simp only[bp,List.take,List.mem_cons,List.not_mem_nil,or_false] at ho ha ⊢;subst ho;rcases ha with rfl|rfl|rfl|rfl|rfl
  .rfl
  all_goals exact absurd hb (by decide)
 | 2,_=>
  simp only[bp,List.take,List.mem_cons,List.not_mem_nil,or_false] at ho ha ⊢;rcases ho with rfl|rfl
  all_goals (rcases ha with rfl|rfl|rfl|rfl|rfl<;>first|(exact .inl rfl)|(exact .inr rfl)|(exact absurd hb (by decide)))
 | 3,_=>
  simp only[bp,List.take,List.mem_cons,List.not_mem_nil,or_false] at ho ha ⊢;rcases ho with rfl|rfl|rfl
  all_goals (rcases ha with rfl|rfl|rfl|rfl|rfl<;>first|(exact .inl rfl)|(exact .inr (.inl rfl))|(exact .inr (.inr rfl))|(exact absurd hb (by decide)))
 | 4,_=>
  simp only[bp,List.take,List.mem_cons,List.not_mem_nil,or_false] at ho ha ⊢;rcases ho with rfl|rfl|rfl|rfl
  all_goals (rcases ha with rfl|rfl|rfl|rfl|rfl<;>first|(exact .inl rfl)|(exact .inr (.inl rfl))|(exact .inr (.inr (.inl rfl)))|(exact .inr (.inr (.inr rfl)))|(exact absurd hb (by decide)))
theorem Nc {o:ag}(ho:o∈bp):jQ bp o=0:=by
 simp only[bp,List.mem_cons,List.not_mem_nil,or_false] at ho;rcases ho with rfl|rfl|rfl|rfl|rfl
 .exact Lo
 .exact Lp
 .exact Lq
 .exact Lr
 .exact Ls
theorem Cv {i:Nat}(hi:i<=4){o:ag}(ho:o∈bp.take i):o.kind≠2:=by
 have h4:o∈bp.take 4:=by
  have:bp.take i=(bp.take 4).take i:=by rw[List.take_take,Nat.min_eq_left hi]
  rw[this] at ho;exact List.mem_of_mem_take ho
 simp only[bp,List.take,List.mem_cons,List.not_mem_nil,or_false] at h4;rcases h4 with rfl|rfl|rfl|rfl<;>decide
theorem sD {i:Nat}(hi:i<=4){d:Dt}(hd:d∈qB (bp.take i)):jv (bp.take i) d=2:=by
 have hP:=KC i hi;rw[Dt.mem_set,List.mem_map] at hd;obtain⟨x,hx,rfl⟩:=hd;refine(nt ?_ ?_).2
 .rw[qn hP.AL hx,v_ hP hx,Nc (hP.sub x hx)];rfl
 .rw[List.eq_nil_iff_forall_not_mem]
  intro v hv;obtain⟨_,h2,h3⟩:=nj.1 hv;obtain⟨o,hf,_,e1,_⟩:=jS h2;unfold wF zx at h3;rw[e1] at h3;simp only[Bool.and_eq_true,decide_eq_true_eq] at h3;exact Cv hi (fZ hf).1 h3.1
theorem KD {i:Nat}{d:Dt}(hd:d∈qB (bp.take i)):d∈qB (bp.take (i+1)):=by
 rw[Dt.mem_set,List.mem_map] at hd ⊢;obtain⟨x,hx,rfl⟩:=hd;exact⟨x,(List.take_subset_take_left bp (Nat.le_succ i)) hx,rfl⟩
theorem filter_none {α:Type}{p:α->Bool}{l:List α}(h:∀ x,x∈l->p x=false):l.filter p=[]:=List.filter_eq_nil_iff.2 λ x hx=>by rw[h x hx];decide
theorem tM {i:Nat}(hi:i<4):oJ (dQ (bp.take i)) (dQ (bp.take (i+1)))=[]:=by
 unfold oJ;rw[filter_none,set_nil];intro d _;unfold oI;rw[sC,ej,ej]
 by_cases h:d∈qB (bp.take i)
 .rw[sD (by omega) h,sD (by omega) (KD h)];simp
 .simp[h]
theorem Cw (K:KM):oJ ⟨[],0⟩ K=[]:=by
 unfold oJ;rw[filter_none,set_nil];intro d _;unfold oI;simp[MM.has,MM.get]
theorem EL:oJ (dQ (bp.take 4)) (dQ bp)=[⟨0,4⟩]:=by
 unfold oJ;rw[<- Kl ⟨0,4⟩];refine Dt.zw λ d=> ?_
 rw[List.mem_filter,List.mem_singleton,(yA bp).mem_iff,Cg];unfold oI;rw[sC,ej,ej,Bool.and_eq_true,decide_eq_true_eq,Bool.not_eq_true',decide_eq_false_iff_not];have h4:∀ e,e∈qB (bp.take 4)↔e=⟨0,1⟩\/e=⟨0,2⟩\/e=⟨0,3⟩\/e=⟨0,4⟩:=λ e=>by
  rw[Dt.mem_set];show e∈[(⟨0,1⟩:Dt),⟨0,2⟩,⟨0,3⟩,⟨0,4⟩]↔_;simp
 constructor
 .rintro⟨_,h2,h3⟩
  rw[sD (by omega) h2] at h3;rcases(h4 d).1 h2 with rfl|rfl|rfl|rfl
  .exact absurd QN.symm h3
  .exact absurd QO.symm h3
  .exact absurd Qq.symm h3
  .rfl
 .rintro rfl
  have hm:(⟨0,4⟩:Dt)∈qB (bp.take 4):=(h4 _).2 (.inr (.inr (.inr rfl)));exact⟨by simp,hm,by rw[sD (by omega) hm,P4];decide⟩
theorem Nd:oR (dz bp) (dQ bp) ⟨0,4⟩=[⟨1,1⟩]:=by
 unfold oR;rw[Qm];simp only[List.filter_cons,List.filter_nil,ej,Qr,decide_true,if_true]
noncomputable def EN (i:Nat):En:=⟨bp.take i,if i=0 then ⟨[],0⟩ else dQ (bp.take i),if i<=4 then xk i else PX 4 1⟩
theorem KE:EN 0=En.zero:=rfl
theorem LC {i:Nat}(hi:i<=5):(EN i).kn.wf:=λ r hr=>by
 match i,hi,r,hr with
 | 0,_,0,_|0,_,1,_|0,_,2,_|0,_,3,_|0,_,4,_|0,_,5,_|0,_,6,_|0,_,7,_
 | 1,_,0,_|1,_,1,_|1,_,2,_|1,_,3,_|1,_,4,_|1,_,5,_|1,_,6,_|1,_,7,_
 | 2,_,0,_|2,_,1,_|2,_,2,_|2,_,3,_|2,_,4,_|2,_,5,_|2,_,6,_|2,_,7,_
 | 3,_,0,_|3,_,1,_|3,_,2,_|3,_,3,_|3,_,4,_|3,_,5,_|3,_,6,_|3,_,7,_
 | 4,_,0,_|4,_,1,_|4,_,2,_|4,_,3,_|4,_,4,_|4,_,5,_|4,_,6,_|4,_,7,_
 | 5,_,0,_|5,_,1,_|5,_,2,_|5,_,3,_|5,_,4,_|5,_,5,_|5,_,6,_|5,_,7,_=>show _<_;decide
theorem KF {i:Nat}(hi:i<5):∃ x,bp[i]? =some x/\x∈bp/\x.dot.wf/\(EN i).may x=true/\(EN i).put x=EN (i+1):=by
 match i,hi with
 | 0,_=>exact⟨p1,rfl,by simp[bp],by unfold Dt.wf;decide,rfl,rfl⟩
 | 1,_=>exact⟨p2,rfl,by simp[bp],by unfold Dt.wf;decide,rfl,rfl⟩
 | 2,_=>exact⟨p3,rfl,by simp[bp],by unfold Dt.wf;decide,rfl,rfl⟩
 | 3,_=>exact⟨p4,rfl,by simp[bp],by unfold Dt.wf;decide,rfl,rfl⟩
 | 4,_=>exact⟨p5,rfl,by simp[bp],by unfold Dt.wf;decide,rfl,rfl⟩
theorem KG {i:Nat}(hi:i<5):oJ (EN i).K (EN (i+1)).K=if i=4 then [⟨0,4⟩] else []:=by
 match i,hi with
 | 0,_=>exact Cw _
 | 1,_=>exact tM (i:=1) (by decide)
 | 2,_=>exact tM (i:=2) (by decide)
 | 3,_=>exact tM (i:=3) (by decide)
 | 4,_=>exact EL
end
section
attribute [local irreducible] SW RW aH SC aj ak js sG
abbrev Ph (X:Ix)(K:KM):Hp:=[(16,uf K),(15,.box 110 [.any,.mp 12,.mp 13,.mp 14]),(12,.map (au Dt.cells ov X.ops) X.co),(13,.map (au Dt.cells dn X.ch) X.cc),(14,.map (au Dt.cells dn X.me) X.cf)]
theorem KH (X:Ix)(K:KM):(vH X K).aC (· +1)=Ph X K:=by
 simp[Hp.aC,Ob.aC,SV.aN,SV.aC,fP,cG,h_]
theorem O3 (l:List ag)(hl:l.length<=80)(hrow:lN l):SC Tryz.prog verdict_all.f [ops l] [] 1 16 λ r F=>∃ S,∃ h:dw l S,r= .dL [.mp 16,.ptr 15 0]/\F=Ph h.X (dQ l):=by
 have:=SB.at (Iq l hl hrow) (· +1) 1 (λ n m h=>absurd h (Nat.not_lt_zero n)) (λ n h=>absurd h (Nat.not_lt_zero n)) (λ i _=>by show 0+i+1=1+i;omega);rw[show SV.aN (· +1) [ops l]=[ops l] by simp[SV.aN,SV.aC]] at this;refine SC.mono (show SC Tryz.prog verdict_all.f [ops l] [] 1 16 _ from this) ?_;rintro r F ⟨r0,F0,⟨S,h,rfl,rfl⟩,rfl,rfl⟩;exact⟨S,h,rfl,KH _ _⟩
theorem KI (X:Ix)(hX:X.small)(K:KM)(d:Dt)(hh:MM.has X.ops d=true)(hT:(X.kr d).length<1000000000)(k:Nat):aH Tryz.prog verdict_hits.f [.ptr 15 0,.mp 16,.agg d.cells] (Ph X K) k 8 (.gs (k+7) (oR X.kr K d).length) ((k+7,uz (oR X.kr K d) 12)::Ph X K):=by
 have:=SB.lR [15,12,13,14,16] (Dz X hX K d hh hT) (by decide) (λ i hi=>by
  match i,hi with
  | 0,_|1,_|2,_|3,_|4,_=>simp[af]) k
 generalize oR X.kr K d=R at this ⊢;simp[SV.aN,SV.aC,eu,Dt.aq,Hp.aC,Ob.aC,cG,h_,fP,SV.dy] at this;rw[Nat.add_comm 7 k] at this;exact this
noncomputable def wR (l:List ag)(d:Dt):SV:=if dD l d then .dL [bN (oR (dz l) (dQ l) d),i64 0] else .dL [.d .aL,i64 7]
set_option maxHeartbeats 8000000 in
theorem Iz (l:List ag)(hl:l.length<=80)(hrow:lN l)(d:Dt):Go.Sl.Pure Tryz.prog verdict_Hits.f [ops l,.agg d.cells] (wR l d):=by
 refine verdict_Hits.enter (by first|rfl|simp[SV.ok,SV.ax]) (by first|rfl|simp[Hp.ok,Ob.ok,SV.ok,SV.ax,ay.ah]) (by simp) ?_;dsimp only[verdict_Hits.s,Co.M,Co.J,Co.F,Co.Z,Co.b8,Co.K,Co.E,Co.P,Co.R,Co.x,Co.S];refine SW.seq (SW.g0 ge Zm aa ?_);refine SW.seq (SW.xU ?_);(repeat (first|refine bq.op aa (h:=?_)|refine bq.dV aa (h:=?_)|refine bq.skip (h:=?_)));refine bq.bC (O3 l hl hrow) (HSub.nil _) (h:=?_);rintro _ _ ⟨S,h,rfl,rfl⟩;simp only[bU,de,dg,gf,gJ,c_,lk,List.lookup,Nat.reduceBEq,BEq.rfl,beq_self_eq_true,if_true,if_false,reduceIte,Nat.reduceEqDiff,Bool.false_eq_true,Option.isSome_some,Option.isSome_none,Nat.reduceAdd];(repeat (first|refine bq.op aa (h:=?_)|refine bq.dV aa (h:=?_)|refine bq.skip (h:=?_)));refine bq.nil ?_;have hsm:=h.small hl;have hT:=h.Ly hl d;have hhas:MM.has h.X.ops d=dD l d:=by rw[h.HO,h.ue]
 have hlk:=kJ (dQ l).m d;change _=SV.d (.int .u8 (((dQ l).get d:Nat):Int)) at hlk;rw[ej] at hlk;refine SW.seq (SW.seq ?_);unfold wR;cases hg:dD l d with
 | false=>
  have e0:jv l d=0:=by unfold jv;rw[if_neg (by rw[hg];decide)]
  rw[e0] at hlk;have z0:((((0:Nat):Int)) == 0)=true:=rfl;refine SW.g0 ge Zm (Zq hlk z0) ?_;refine SW.ai rfl (SW.seq (SW.g0 ge Zm aa ?_));refine SW.ret ?_;exact End.mk [] (h4:=⟨rfl,rfl⟩)
 | true=>
  obtain⟨n,hn⟩:∃ n,jv l d=n:=⟨_,rfl⟩;have hn0:n≠0:=by
   rw[<- hn];unfold jv;rw[if_pos hg];split<;>decide
  rw[hn] at hlk;have z0:((n:Int) == 0)=false:=by
   have:(n:Int)≠0:=by omega
   simpa using this
  refine SW.g0 ge Zm (Zq hlk z0) ?_;refine SW.an rfl (SW.skip (SW.seq ?_));have cH:=KI h.X hsm (dQ l) d (by rw[hhas,hg]) hT 17;rw[h.Dy] at cH;generalize oR (dz l) (dQ l) d=R at cH ⊢;refine SW.g1 ge Zm aa cH ?_;refine SW.freeze 24 (R.flatMap Dt.ds) rfl rfl ?_;simp only[k9,SV.iJ,List.map_cons,List.map_nil,if_true,if_false,reduceIte,Nat.reduceEqDiff];refine SW.ret ?_;exact End.mk [] (h4:=⟨rfl,rfl⟩)
theorem IA (l:List ag)(hl:l.length<=80)(hrow:lN l)(d:Dt)(k:Nat):aH Tryz.prog verdict_Hits.f [ops l,.agg d.cells] [] k 0 (wR l d) []:=(Iz l hl hrow d).sc (by unfold wR;split<;>rfl) k
theorem DE (e r m:Nat)(hd:[e,r,m].Nodup)(E:En)(hw:E.kn.wf)(o:ag)(ho:o.dot.wf)(hm:E.may o=true)(zD:(E.l++[o]).length<=80)(hrow:lN (E.l++[o]))(mz:∀ k,aH Tryz.prog slices_Clone_Lapi_Claim_api_Claim.f [.d o.lines] [] k 0 (.d o.lines) [])(k:Nat):
  aH Tryz.prog verdict_Engine_Put.f [.ptr e 0,.agg o.cells] (eH e r m E) k 6 (.dL [bN (oJ E.K (E.put o).K),i64 0]) (eH e (k+4) (k+5) (E.put o)):=by
 have:=SB.lR [e,r,m] (KB E hw o ho hm zD hrow mz) hd (λ i hi=>Bg E i hi) k;rw[qY,qY] at this;have e7:eu [e,r,m] k 7=k+4:=by simp[eu];omega
 have e8:eu [e,r,m] k 8=k+5:=by simp[eu];omega
 rw[e7,e8] at this
 simpa[SV.aN,SV.aC,eu,ag.aq] using this
theorem yB (e r m:Nat)(hd:[e,r,m].Nodup)(E:En)(hw:E.kn.wf)(o:ag)(ho:o.dot.wf)(hm:E.may o=false)(k:Nat):aH Tryz.prog verdict_Engine_Put.f [.ptr e 0,.agg o.cells] (eH e r m E) k 0 (.dL [.d .aL,i64 9]) (eH e r m E):=by
 have:=SB.lR [e,r,m] (KA E hw o ho hm) hd (λ i hi=>Bg E i hi) k;rw[qY] at this
 simpa[SV.aN,SV.aC,eu,ag.aq] using this
end
section
attribute [local irreducible] SW RW aH SC aj ak js sG
set_option maxRecDepth 100000 in
set_option maxHeartbeats 4000000 in
theorem EM:Go.Sl.Pure Tryz.prog law19_row.f [] (ops [q1,q2,q3,q4,q5]):=by
 refine law19_row.enter (by first|rfl|simp[SV.ok,SV.ax]) (by first|rfl|simp[Hp.ok,Ob.ok,SV.ok,SV.ax,ay.ah]) (by simp) ?_;dsimp only[law19_row.s,Co.M,Co.J,Co.F,Co.b8,Co.aB,Co.bE,Co.z8,Co.bH,Co.K,Co.W,Co.S];refine SW.seq (SW.g0 [0,1] Zm aa ?_);refine SW.seq (SW.g0 [0,1] Zm aa ?_);refine SW.seq ?_
 (refine SW.di [0,1] Zm ?_;(repeat (first|refine RW.wE q1.cells rfl rfl (by decide) (h:=?_)|refine RW.wE q2.cells rfl rfl (by decide) (h:=?_)|refine RW.wE q3.cells rfl rfl (by decide) (h:=?_)|refine RW.wE q4.cells rfl rfl (by decide) (h:=?_)|refine RW.wE q5.cells rfl rfl (by decide) (h:=?_)|refine PM q1 q2 q3 q4 q5 rfl rfl rfl rfl rfl rfl (h:=?_)|refine RW.ro aa (h:=?_)|refine RW.skip (h:=?_)|refine RW.op aa (h:=?_)|refine RW.dV aa (h:=?_)|refine RW.br (h:=?_)));refine RW.nil ⟨by kernel_rfl,ak.mk (h:=?_)⟩)
 refine SW.ret ?_;exact End.mk [] (h4:=⟨rfl,rfl⟩)
theorem EO (k:Nat):aH Tryz.prog law19_row.f [] [] k 0 (ops bp) []:=by
 have h0:aH Tryz.prog law19_row.f [] [] k 0 (ops [q1,q2,q3,q4,q5]) []:=EM.sc rfl k;refine SC.OH h0 λ p μ M u hu=> ?_
 rw[Rp.cB] at hu ⊢;have:=bQ.Qa hu;rw[<- BM] at this;exact this
def q6:ag:=⟨⟨0,6⟩,ay.zero,0,0,⟨0,0⟩,0,⟨0,0⟩,0,0,0,0,⟨0,0⟩,⟨0,0⟩,0,0,0,.aL⟩
theorem P5 (i:Nat):(EN i).l=bp.take i:=rfl
theorem IB {i:Nat}(hi:i<5):∃ x,bp[i]? =some x/\∀ k,aH Tryz.prog verdict_Engine_Put.f [.ptr 0 0,.agg x.cells] (eH 0 1 2 (EN i)) k 6 (.dL [bN (if i=4 then [⟨0,4⟩] else []),i64 0]) (eH 0 (k+4) (k+5) (EN (i+1))):=by
 obtain⟨x,h1,h2,h3,h4,h5⟩:=KF hi;refine⟨x,h1,λ k=> ?_⟩;have hl:(EN i).l++[x]=bp.take (i+1):=by rw[P5,dY h1]
 have hx:=AZ x h2;have:=DE 0 1 2 (by decide) (EN i) (LC (by omega)) x h3 h4 (by rw[hl,List.length_take];have:bp.length=5:=rfl;omega) (by rw[hl];exact λ o ho=>wL o (List.mem_of_mem_take ho)) (λ k=>by rw[hx.2.1.eq];exact(tB x.cl hx.2.2).sc rfl k) k;rw[h5,KG hi] at this;exact this
theorem O4:pN (EN 5) ⟨0,4⟩= .dL [.d (.int .u8 1),i64 0]:=by
 have e:(EN 5).K=dQ bp:=rfl;unfold pN;rw[e,sC,if_pos (by rw[Cg];decide),ej,P4];rfl
theorem QT (k:Nat):aH Tryz.prog verdict_Hits.f [ops bp,.agg (Dt.mk 0 4).cells] [] k 0 (.dL [bN [⟨1,1⟩],.d (.int .i64 0)]) []:=by
 have:=IA bp (by decide) wL ⟨0,4⟩ k;unfold wR at this;rw[if_pos Pf,Nd] at this;exact this
theorem P6 (k:Nat):aH Tryz.prog ref03_Same.f [bN [⟨0,4⟩],.d (.sl 1 (Dt.mk 0 4).ds)] [] k 0 (.d (.bool true)) []:=C_ [⟨0,4⟩] [⟨0,4⟩] (by decide) (by decide) k
theorem sE {K:KM}{d:Dt}{n:Nat}(h:K.get d=n):fG (au Dt.cells kv K.m) (.d (.int .u8 0)) (MM.idx K.m d)= .d (.int .u8 (n:Int)):=by
 have:=kJ K.m d;change _=SV.d (.int .u8 ((K.get d:Nat):Int)) at this;rw[this,h]
set_option maxHeartbeats 16000000 in
theorem EP:Go.Sl.Pure Tryz.prog law19_head.f [] (bl true):=by
 refine law19_head.enter (by first|rfl|simp[SV.ok,SV.ax]) (by first|rfl|simp[Hp.ok,Ob.ok,SV.ok,SV.ax,ay.ah]) (by simp) ?_;dsimp only[law19_head.s,Co.M,Co.G,Co.J,Co.H,Co.F,Co.C,Co.Z,Co.B,Co.b8,Co.aB,Co.bH,Co.K,Co.E,Co.L,Co.P,Co.Q,Co.Y,Co.U,Co.I,Co.S];refine SW.seq (SW.g0 bi Zm aa ?_);refine SW.seq (SW.g1 bi Zm aa EO ?_);have cO:=Bb bp (by decide) wL 0;have m5:(au Dt.cells kv (dQ bp).m).length=5:=by rw[show(au Dt.cells kv (dQ bp).m).length=(dQ bp).m.length by simp[au]];exact QS
 have k4:=sE (K:=dQ bp) (d:=⟨0,4⟩) (n:=1) (by rw[ej];exact P4);have k3:=sE (K:=dQ bp) (d:=⟨0,3⟩) (n:=2) (by rw[ej];exact Qq);have k5:=sE (K:=dQ bp) (d:=⟨1,1⟩) (n:=2) (by rw[ej];exact Qr);generalize dQ bp=K at cO m5 k4 k3 k5;refine SW.seq (SW.g1 bi Zm aa cO ?_);refine SW.seq (SW.g1 bi Zm aa (DC 1) ?_);refine SW.seq (SW.seq (SW.g0 bi Zm (Zq m5 (Zq k4 (Zq k3 (Zq k5 (Zq d4 (Zq d3 OW)))))) ?_));refine SW.an rfl (SW.skip (SW.seq (SW.seq (SW.g0 bi Zm aa ?_))));refine SW.block (SW.loop (α:={i:Nat // i<=4}) (λ i=>⟨[(4,i64 i.1),(3,.ptr 0 0),(1,ops bp)],eH 0 1 2 (EN i.1),3⟩) (λ i=>4 - i.1) ⟨0,by decide⟩ (λ n=>if n=0 then 2 else if n=1 then 3 else 1) ?_ ?_)
 .refine⟨Nat.zero_le _,λ n hn=>absurd hn (Nat.not_lt_zero n),?_,?_,?_⟩
  .simp[aJ,List.lookup,SV.aC,SV.ok,SV.aN,SV.ax]
  .rw[KE]
   simp[sV,af,Ob.aC,Ob.ok,oA,qX,fP,dH,SV.aN,SV.aC,SV.dy,SV.ax,SV.ok,SV.aW,En.zero];exact⟨rfl,rfl,rfl⟩
  .intro a ha b hb e
   simp only[List.map_cons,List.map_nil,List.mem_cons,List.not_mem_nil,or_false] at ha hb;rcases ha with rfl|rfl|rfl<;>rcases hb with rfl|rfl|rfl<;>simp at e<;>rfl
 rintro⟨i,hi⟩;dsimp only
 by_cases h:i<4
 .have h1:decide ((i:Int)<4)=true:=by simp only[decide_eq_true_eq];omega
  have e2:IntKind.i64.wrap ((i:Int)+1)=((i+1:Nat):Int):=wrap_i64 _ (by omega);obtain⟨x,hx,cP⟩:=IB (i:=i) (by omega);rw[if_neg (by omega)] at cP;have hpl:=cU hx;have cP3:aH Tryz.prog verdict_Engine_Put.f [.ptr 0 0,.agg x.cells] (eH 0 1 2 (EN i)) 3 6 (.dL [bN [],i64 0]) (eH 0 7 8 (EN (i+1))):=cP 3;obtain⟨E1,oE⟩:∃ E1,EN (i+1)=E1:=⟨_,rfl⟩;rw[oE] at cP3;refine SW.seq (SW.seq (SW.g0 bi Zm h1 ?_));refine SW.ai rfl (SW.skip (SW.seq (SW.block (SW.seq (SW.g1 bi Zm (Zq (gW hx) (cF hx)) cP3 ?_)))));refine SW.seq (SW.g0 bi Zm aa ?_);refine SW.an rfl (SW.skip (SW.g0 bi Zm e2 ?_));refine⟨⟨i+1,by omega⟩,λ n=>if n=1 then 7 else if n=2 then 8 else n,by show 4 - (i+1)<4 - i;omega,?_⟩;dsimp only;rw[oE];refine⟨Nat.zero_le _,λ n hn=>absurd hn (Nat.not_lt_zero n),?_,?_,?_⟩
  .simp[aJ,List.lookup,SV.aC,SV.ok,SV.aN,SV.ax]
  .simp[sV,af,Ob.aC,Ob.ok,oA,qX,fP,dH,SV.aN,SV.aC,SV.dy,SV.ax,SV.ok,SV.aW]
  .intro a ha b hb e
   simp only[List.map_cons,List.map_nil,List.mem_cons,List.not_mem_nil,or_false] at ha hb;rcases ha with rfl|rfl|rfl<;>rcases hb with rfl|rfl|rfl<;>simp at e<;>rfl
 have h1:decide ((i:Int)<4)=false:=by simp only[decide_eq_false_iff_not];omega
 have h4:i=4:=by omega
 subst h4;refine SW.seq (SW.seq (SW.g0 bi Zm h1 ?_));refine SW.an rfl (SW.exit ?_);refine(?_:Sl.SW _ _ _ _ _ _);obtain⟨x,hx,cP⟩:=IB (i:=4) (by omega);rw[if_pos rfl] at cP;have hpl:=cU hx;obtain rfl:x=p5:=(Option.some.inj hx).symm;have cP3:aH Tryz.prog verdict_Engine_Put.f [.ptr 0 0,.agg p5.cells] (eH 0 1 2 (EN 4)) 3 6 (.dL [bN [⟨0,4⟩],i64 0]) (eH 0 7 8 (EN 5)):=cP 3;have cN:∀ k,aH Tryz.prog verdict_Engine_Put.f [.ptr 0 0,.agg q6.cells] (eH 0 7 8 (EN 5)) k 0 (.dL [.d .aL,i64 9]) (eH 0 7 8 (EN 5)):=yB 0 7 8 (by decide) (EN 5) (LC (by decide)) q6 (by unfold Dt.wf;decide) rfl;have cT:=DB 0 7 8 (by decide) (EN 5) ⟨0,4⟩;rw[O4] at cT;refine SW.seq (SW.g1 bi Zm (Zq (gW hx) (cF hx)) cP3 ?_);refine SW.seq ?_
 (refine SW.di bi Zm ?_;(repeat (first|refine RW.wE (Dt.mk 0 6).cells rfl rfl (by decide) (h:=?_)|refine RW.wE q6.cells rfl rfl (by decide) (h:=?_)|refine RW.ro aa (h:=?_)|refine RW.skip (h:=?_)|refine RW.op aa (h:=?_)|refine RW.dV aa (h:=?_)|refine RW.br (h:=?_)|(refine RW.bC (h:=?_);(first|refine aj.mk aa (hc:=cN _) (h:=?_)))));refine RW.nil ⟨bM (by kernel_rfl),ak.mk (h:=?_)⟩)
 refine SW.seq (SW.g1 bi Zm d4 cT ?_);refine SW.seq (SW.g1 bi Zm d4 QT ?_);refine SW.seq (SW.g2 bi Zm (Zq d4 OW) P6 QK ?_);refine SW.ret ?_;exact End.mk [] (h4:=⟨rfl,rfl⟩)
theorem bY (k:Nat):aH Tryz.prog law19_head.f [] [] k 0 (.d (.bool true)) []:=EP.sc rfl k
end
end Go.Proofs.YtaelhkkjgfobhaaGreat
namespace Go.Proofs.YtaelhkkjgfobhaaGreat
open Go.Sl Go.Proofs
section
theorem yC {P:Program}{t:TypeId}{n:Nat}{ds:List DV}(h:dS P t=some (some n)):kB P t ds= .agg (ds.map .d):=by simp[kB,h]
theorem yD {P:Program}{t:TypeId}{ds:List DV}(h:dS P t=some none):kB P t ds= .d (ds.headD .dZ):=by simp[kB,h]
set_option maxRecDepth 100000 in
theorem KJ {d:Nat}{ds:List DV}(h:Fit Tryz.prog (d+2) rV ds):∃ v:ay,v.wf/\ds=v.ds:=
 Jo (P:= Tryz.prog) (t:=rV) (e:=F4) Tryz.underlying39 Tryz.underlying35 (by kernel_rfl) (by kernel_rfl) h
set_option maxRecDepth 100000 in
theorem oB {d:Nat}{ds:List DV}(h:Fit Tryz.prog (d+2) ya ds):∃ x:Dt,x.wf/\ds=x.ds:=
 Jp (P:= Tryz.prog) (t:=ya) Tryz.underlying37 rfl rfl rfl rfl Tryz.underlying5 Tryz.underlying35 (by kernel_rfl) (by kernel_rfl) (by kernel_rfl) h
set_option maxRecDepth 100000 in
theorem ER {d:Nat}{ds:List DV}(h:Fit Tryz.prog (d+3) jf ds):∃ x:Cm,x.wf/\ds=x.ds:=by
 have f0:=bV (P:= Tryz.prog) (t:=jf) Tryz.underlying148 h 0 _ rfl;have f1:=bV (P:= Tryz.prog) (t:=jf) Tryz.underlying148 h 1 _ rfl;have hl:=yV (P:= Tryz.prog) (t:=jf) Tryz.underlying148 h;rw[show Tryz.prog.cellsOf jf=4 from by kernel_rfl] at hl;obtain⟨x0,w0,e0⟩:=oB (d:=d) f0;obtain⟨x1,w1,e1⟩:=oB (d:=d) f1;refine⟨⟨x0,x1⟩,⟨w0,w1⟩,?_⟩;have g0:ds.drop 0=x0.ds++ds.drop 2:=ot (n:=2) e0 rfl;have g1:ds.drop 2=x1.ds++ds.drop 4:=ot (n:=2) e1 rfl;have g:ds.drop 4=[]:=List.drop_of_length_le (by omega);have g':ds=ds.drop 0:=rfl;rw[g',g0,g1,g];rfl
set_option maxRecDepth 100000 in
theorem ES {d:Nat}{ds:List DV}(h:Fit Tryz.prog (d+4) qz ds):ds=[.aL]\/∃ l:List Cm,(∀ x∈l,x.wf)/\l.length<=9223372036854775807/\ds=[.sl l.length (l.flatMap Cm.ds)]:=
 s8 Cm.ds Cm.wf (P:= Tryz.prog) (t:=qz) (e:=jf) Tryz.underlying41 (λ _ h=>ER h) h
structure ND (o:ag):Prop where
 dot:o.dot.wf
 dep:o.dep.wf
 time:o.time<18446744073709551616
 who:o.who<4294967296
 aK:o.aK.wf
 kind:o.kind<256
 aP:o.aP.wf
 to:o.to<4294967296
 bn:o.bn<256
 depth:o.depth<256
 cap:o.cap<18446744073709551616
 at_:o.at_.wf
 jA:o.jA.wf
 item:o.item<4294967296
 uu:o.uu<4294967296
 ff:o.ff<4294967296
 lines:o.lines= .aL\/∃ cl:List Cm,o.lines= .sl cl.length (cl.flatMap Cm.ds)/\cl.length<=9223372036854775807
set_option maxRecDepth 100000 in
set_option maxHeartbeats 2000000 in
theorem IC {d:Nat}{ds:List DV}(h:Fit Tryz.prog (d+5) cg ds):∃ o:ag,ND o/\ds=o.ds:=by
 have f0:=bV (P:= Tryz.prog) (t:=cg) Tryz.underlying43 h 0 _ rfl;have f1:=bV (P:= Tryz.prog) (t:=cg) Tryz.underlying43 h 1 _ rfl;have f2:=bV (P:= Tryz.prog) (t:=cg) Tryz.underlying43 h 2 _ rfl;have f3:=bV (P:= Tryz.prog) (t:=cg) Tryz.underlying43 h 3 _ rfl;have f4:=bV (P:= Tryz.prog) (t:=cg) Tryz.underlying43 h 4 _ rfl;have f5:=bV (P:= Tryz.prog) (t:=cg) Tryz.underlying43 h 5 _ rfl;have f6:=bV (P:= Tryz.prog) (t:=cg) Tryz.underlying43 h 6 _ rfl;have f7:=bV (P:= Tryz.prog) (t:=cg) Tryz.underlying43 h 7 _ rfl;have f8:=bV (P:= Tryz.prog) (t:=cg) Tryz.underlying43 h 8 _ rfl;have f9:=bV (P:= Tryz.prog) (t:=cg) Tryz.underlying43 h 9 _ rfl;have f10:=bV (P:= Tryz.prog) (t:=cg) Tryz.underlying43 h 10 _ rfl;have f11:=bV (P:= Tryz.prog) (t:=cg) Tryz.underlying43 h 11 _ rfl;have f12:=bV (P:= Tryz.prog) (t:=cg) Tryz.underlying43 h 12 _ rfl;have f13:=bV (P:= Tryz.prog) (t:=cg) Tryz.underlying43 h 13 _ rfl;have f14:=bV (P:= Tryz.prog) (t:=cg) Tryz.underlying43 h 14 _ rfl;have f15:=bV (P:= Tryz.prog) (t:=cg) Tryz.underlying43 h 15 _ rfl;have f16:=bV (P:= Tryz.prog) (t:=cg) Tryz.underlying43 h 16 _ rfl;have hl:=yV (P:= Tryz.prog) (t:=cg) Tryz.underlying43 h;rw[show Tryz.prog.cellsOf cg=29 from by kernel_rfl] at hl;obtain⟨x0,w0,e0⟩:=oB (d:=d+2) f0;obtain⟨x1,w1,e1⟩:=KJ (d:=d+2) f1;obtain⟨x2,w2,e2⟩:=C0 (P:= Tryz.prog) Tryz.underlying40 f2;obtain⟨x3,w3,e3⟩:=oo (P:= Tryz.prog) Tryz.underlying35 f3;obtain⟨x4,w4,e4⟩:=oB (d:=d+2) f4;obtain⟨x5,w5,e5⟩:=qQ (P:= Tryz.prog) Tryz.underlying5 f5;obtain⟨x6,w6,e6⟩:=oB (d:=d+2) f6;obtain⟨x7,w7,e7⟩:=oo (P:= Tryz.prog) Tryz.underlying35 f7;obtain⟨x8,w8,e8⟩:=qQ (P:= Tryz.prog) Tryz.underlying5 f8;obtain⟨x9,w9,e9⟩:=qQ (P:= Tryz.prog) Tryz.underlying5 f9;obtain⟨O_,w10,e10⟩:=C0 (P:= Tryz.prog) Tryz.underlying40 f10;obtain⟨Pa,w11,Qe⟩:=oB (d:=d+2) f11;obtain⟨Pb,w12,e12⟩:=oB (d:=d+2) f12;obtain⟨Pc,w13,e13⟩:=oo (P:= Tryz.prog) Tryz.underlying35 f13;obtain⟨x14,w14,e14⟩:=oo (P:= Tryz.prog) Tryz.underlying35 f14;obtain⟨x15,w15,e15⟩:=oo (P:= Tryz.prog) Tryz.underlying35 f15;have e16:∃ y,(ds.drop 28).take 1=[y]/\(y= .aL\/∃ cl:List Cm,y= .sl cl.length (cl.flatMap Cm.ds)/\cl.length<=9223372036854775807):=by
  rcases ES (d:=d) f16 with e|⟨cl,_,hn,e⟩
  .exact⟨.aL,e,.inl rfl⟩
  .exact⟨_,e,.inr ⟨cl,rfl,hn⟩⟩
 obtain⟨x16,e16,w16⟩:=e16;refine⟨⟨x0,x1,x2,x3,x4,x5,x6,x7,x8,x9,O_,Pa,Pb,Pc,x14,x15,x16⟩,⟨w0,w1,w2,w3,w4,w5,w6,w7,w8,w9,w10,w11,w12,w13,w14,w15,w16⟩,?_⟩;have g0:ds.drop 0=x0.ds++ds.drop 2:=ot (n:=2) e0 rfl;have g1:ds.drop 2=x1.ds++ds.drop 10:=ot (n:=8) e1 rfl;have g2:ds.drop 10=[.int .u64 x2]++ds.drop 11:=ot (n:=1) e2 rfl;have g3:ds.drop 11=[.int .u32 x3]++ds.drop 12:=ot (n:=1) e3 rfl;have g4:ds.drop 12=x4.ds++ds.drop 14:=ot (n:=2) e4 rfl;have g5:ds.drop 14=[.int .u8 x5]++ds.drop 15:=ot (n:=1) e5 rfl;have g6:ds.drop 15=x6.ds++ds.drop 17:=ot (n:=2) e6 rfl;have g7:ds.drop 17=[.int .u32 x7]++ds.drop 18:=ot (n:=1) e7 rfl;have g8:ds.drop 18=[.int .u8 x8]++ds.drop 19:=ot (n:=1) e8 rfl;have g9:ds.drop 19=[.int .u8 x9]++ds.drop 20:=ot (n:=1) e9 rfl;have g10:ds.drop 20=[.int .u64 O_]++ds.drop 21:=ot (n:=1) e10 rfl;have g11:ds.drop 21=Pa.ds++ds.drop 23:=ot (n:=2) Qe rfl;have g12:ds.drop 23=Pb.ds++ds.drop 25:=ot (n:=2) e12 rfl;have g13:ds.drop 25=[.int .u32 Pc]++ds.drop 26:=ot (n:=1) e13 rfl;have g14:ds.drop 26=[.int .u32 x14]++ds.drop 27:=ot (n:=1) e14 rfl;have g15:ds.drop 27=[.int .u32 x15]++ds.drop 28:=ot (n:=1) e15 rfl;have g16:ds.drop 28=[x16]++ds.drop 29:=ot (n:=1) e16 rfl;have g:ds.drop 29=[]:=List.drop_of_length_le (by omega);have g':ds=ds.drop 0:=rfl;rw[g',g0,g1,g2,g3,g4,g5,g6,g7,g8,g9,g10,g11,g12,g13,g14,g15,g16,g];rfl
set_option maxRecDepth 100000 in
theorem KL {d:Nat}{ds:List DV}(h:Fit Tryz.prog (d+6) jN ds):ds=[.aL]\/∃ l:List ag,(∀ x∈l,ND x)/\l.length<=9223372036854775807/\ds=[.sl l.length (l.flatMap ag.ds)]:=
 s8 ag.ds ND (P:= Tryz.prog) (t:=jN) (e:=cg) Tryz.underlying22 (λ _ h=>IC h) h
theorem DF (x:DV):kB Tryz.prog jN [x]= .d x:=by rw[yD (by kernel_rfl)];rfl
theorem ND.nz {q:ag}(h:ND q):ND q.nz/\q.nz.mC:=by
 have hl:q.nz.mC/\(q.nz.lines= .aL\/∃ cl:List Cm,q.nz.lines= .sl cl.length (cl.flatMap Cm.ds)/\cl.length<=9223372036854775807):=by
  rcases h.lines with e|⟨cl,e,mz⟩
  .have e':q.nz.lines= .sl ([]:List Cm).length (([]:List Cm).flatMap Cm.ds):=by show Go.Sl.nz q.lines=_;rw[e];rfl
   exact⟨(ag.mC.of e' (by simp)).1,.inr ⟨[],e',by simp⟩⟩
  .have e':q.nz.lines= .sl cl.length (cl.flatMap Cm.ds):=by show Go.Sl.nz q.lines=_;rw[e];rfl
   exact⟨(ag.mC.of e' mz).1,.inr ⟨cl,e',mz⟩⟩
 exact⟨⟨h.dot,h.dep,h.time,h.who,h.aK,h.kind,h.aP,h.to,h.bn,h.depth,h.cap,h.at_,h.jA,h.item,h.uu,h.ff,hl.2⟩,hl.1⟩
theorem own:ownKnob Tryz.prog.godebug=none:=by kernel_rfl
theorem DG {t:TypeId}(x:DV)(h:dS Tryz.prog t=some none):kB Tryz.prog t [x]= .d x:=by rw[yD h];rfl
def LD (n:Int):Prop:= -9223372036854775808<=n/\n<=9223372036854775807
theorem yU {P:Program}{d:Nat}{t:TypeId}{ds:List DV}(hu:P.underlying t=some (.int .i64))(h:Fit P (d+1) t ds):∃ n:Int,LD n/\ds=[.int .i64 n]:=by
 simp only[Fit] at h;rw[hu] at h;obtain⟨n,rfl,hw⟩:=h;refine⟨n,?_,rfl⟩;simp only[Lit.wf,IntKind.min,IntKind.max,Bool.and_eq_true,decide_eq_true_eq] at hw;unfold LD
 revert hw
 simp[IntKind.bits,IntKind.signed]
theorem qZ (M:Mem):qC M:=λ g cs hg=>by simp[Ff,zL] at hg
theorem DH {P:Program}{d:Nat}{t1 t2 t3:TypeId}{nu:List (List DV)}(h:mB P d [t1,t2,t3] nu):∃ x0 x1 x2,nu=[x0,x1,x2]/\Fit P d t1 x0/\Fit P d t2 x1/\Fit P d t3 x2:=by
 match nu,h with
 | [x0,x1,x2],h=>
  simp only[mB] at h;exact⟨x0,x1,x2,rfl,h.1,h.2.1,h.2.2.1⟩
end
section
theorem ET {l:List ag}{o:ag}(h:o∈l){x:DV}(hx:x∈o.ds):x∈l.flatMap ag.ds:=List.mem_flatMap.2 ⟨o,h,hx⟩
theorem EU (o:ag):o.lines∈o.ds:=by simp[ag.ds]
set_option maxRecDepth 100000 in
theorem yE {d:Nat}{ds:List DV}(h:Fit Tryz.prog (d+6) jN ds)(hs:ew reachBytes ds):∃ x l,ds=[x]/\l.length<=140737488351232/\(∀ o,o∈l->o.kind<256/\o.mC/\o.cl.length<=140737488351232/\o.bn<256/\o.dot.wf)/\
  ∀ (p:Nat->Prop) (μ:Nat->Nm) (M:Mem) (r r':List SV) (hr:∀ vs,aS p μ M r' vs->aS p μ M r vs) (vs:List Value),aS p μ M (.d x::r') vs->aS p μ M (ops l::r) vs:=by
 rcases KL h with rfl|⟨l,hl,hn,rfl⟩
 .exact⟨.aL,[],rfl,by simp,by simp,λ p μ M r r' hr vs hv=>tX hr vs hv⟩
 .simp only[ew,DV.small,and_true,reachBytes] at hs
  obtain⟨h1,h2⟩:=hs;rw[vg] at h2;refine⟨_,l.map ag.nz,rfl,by simpa using h1,λ o ho=> ?_,λ p μ M r r' hr vs hv=> ?_⟩
  .obtain⟨q,hq,rfl⟩:=List.mem_map.1 ho
   have hk:=(hl q hq).nz.1;rcases(hl q hq).lines with e|⟨cl,e,mz⟩
   .have:=ag.mC.of (o:=q.nz) (l:=[]) (by show Go.Sl.nz q.lines=_;rw[e];rfl) (by simp)
    exact⟨hk.kind,this.1,by rw[this.2];simp,hk.bn,hk.dot⟩
   .have hz:=ag.mC.of (o:=q.nz) (l:=cl) (by show Go.Sl.nz q.lines=_;rw[e];rfl) mz
    have hm:=h2 _ (ET hq (EU q));rw[e] at hm;simp only[DV.small] at hm;exact⟨hk.kind,hz.1,by rw[hz.2];exact hm.1,hk.bn,hk.dot⟩
  .have:=C5 hr vs hv
   rw[<- BM] at this
   simpa[ops] using this
theorem iB {H:Type}{P:Program}{n:Nat}{us:List TypeId}{gs:List (DataW H)}:∀ {ts:List TypeId} {ds:List (DataW H)},n∈DataW.weightsEach P ts ds->n∈DataW.weightsEach P (ts++us) (ds++gs)
 | [],_,h=>by simp[DataW.weightsEach] at h
 | _::_,[],h=>by simp[DataW.weightsEach] at h
 | t::ts,d::ds,h=>by
  simp only[DataW.weightsEach,List.mem_append,List.cons_append] at h ⊢;exact h.imp id iB
theorem DI (x:DV):kB Tryz.prog 3 [x]= .d x:=DG x (by kernel_rfl)
end
end Go.Proofs.YtaelhkkjgfobhaaGreat
