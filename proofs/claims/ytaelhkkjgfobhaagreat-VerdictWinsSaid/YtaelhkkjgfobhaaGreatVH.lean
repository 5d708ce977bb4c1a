/-
 Verdicts: the head's row and its beginnings (plain).
-/
import Derived.Test.YtaelhkkjgfobhaaGreatVG
set_option linter.unusedSectionVars false
set_option linter.unusedVariables false
set_option linter.unusedSimpArgs false
namespace Go.Proofs.YtaelhkkjgfobhaaGreat
open Go.Sl Go.Proofs
section
theorem mG {l:List ag}{d:Dt}(hg:bW l d=true)(ht:dS l d=[]):C8 l d=true/\jg l d=2:=by
 have:C8 l d=true:=by rw [vb,ht];rfl
 exact ⟨this,by unfold jg;rw [if_pos hg,if_pos this]⟩
theorem O7:jg bh ⟨0,1⟩=2:=(mG Oe O1).2
theorem O8:jg bh ⟨0,2⟩=2:=(mG Of O2).2
theorem OJ:jg bh ⟨0,3⟩=2:=(mG Og O3).2
theorem OK:jg bh ⟨1,1⟩=2:=(mG Nw OF).2
theorem Oh:jg bh ⟨0,4⟩=1:=by
 have h5:=(mG Nw OF).1;have:C8 bh ⟨0,4⟩=false:=by rw [vb,OE];simp [h5]
 unfold jg;rw [if_pos Nv,if_neg (by rw [this];decide)]
theorem wR (l:List ag):(MM.keys (eN l).m).Perm (xR l):=
 (List.perm_ext_iff_of_nodup (pI l).wf.keys (qo _)).2 λ d=>by rw [<- MM.gV];exact (pI l).keys d
theorem rC (l:List ag)(d:Dt):MM.has (eN l).m d=decide (d∈xR l):=by
 rw [Bool.eq_iff_iff,decide_eq_true_eq];exact (pI l).keys d
theorem O9:(eN bh).m.length=5:=by
 have h:=(wR bh).length_eq;rw [AO] at h;have h3:(MM.keys (eN bh).m).length=(eN bh).m.length:=by simp [MM.keys]
 rw [<- h3,h];rfl
theorem Ji (i:Nat)(hi:i<=4):Part (bh.take i) bh:=by
 have hu:qj bh:=by unfold qj;decide
 refine ⟨hu,hu.sub (List.take_sublist _ _),λ o ho=>List.mem_of_mem_take ho,λ o a ho ha hb=> ?_⟩
 match i,hi with
 | 0,_=>cases ho
 | 1,_=>
  simp only [bh,List.take,List.mem_cons,List.not_mem_nil,or_false] at ho ha ⊢;subst ho;rcases ha with rfl | rfl | rfl | rfl | rfl
  .rfl
  all_goals exact absurd hb (by decide)
 | 2,_=>
  simp only [bh,List.take,List.mem_cons,List.not_mem_nil,or_false] at ho ha ⊢;rcases ho with rfl | rfl
  all_goals (rcases ha with rfl | rfl | rfl | rfl | rfl <;> first | (exact .inl rfl) | (exact .inr rfl) | (exact absurd hb (by decide)))
 | 3,_=>
  simp only [bh,List.take,List.mem_cons,List.not_mem_nil,or_false] at ho ha ⊢;rcases ho with rfl | rfl | rfl
  all_goals (rcases ha with rfl | rfl | rfl | rfl | rfl <;> first | (exact .inl rfl) | (exact .inr (.inl rfl)) | (exact .inr (.inr rfl)) | (exact absurd hb (by decide)))
 | 4,_=>
  simp only [bh,List.take,List.mem_cons,List.not_mem_nil,or_false] at ho ha ⊢;rcases ho with rfl | rfl | rfl | rfl
  all_goals (rcases ha with rfl | rfl | rfl | rfl | rfl <;> first | (exact .inl rfl) | (exact .inr (.inl rfl)) | (exact .inr (.inr (.inl rfl))) | (exact .inr (.inr (.inr rfl))) | (exact absurd hb (by decide)))
theorem LK {o:ag}(ho:o∈bh):eW bh o=0:=by
 simp only [bh,List.mem_cons,List.not_mem_nil,or_false] at ho;rcases ho with rfl | rfl | rfl | rfl | rfl
 .exact JV
 .exact JW
 .exact JX
 .exact JY
 .exact JZ
theorem AT {i:Nat}(hi:i<=4){o:ag}(ho:o∈bh.take i):o.kind≠2:=by
 have h4:o∈bh.take 4:=by
  have:bh.take i=(bh.take 4).take i:=by rw [List.take_take,Nat.min_eq_left hi]
  rw [this] at ho;exact List.mem_of_mem_take ho
 simp only [bh,List.take,List.mem_cons,List.not_mem_nil,or_false] at h4;rcases h4 with rfl | rfl | rfl | rfl <;> decide
theorem rD {i:Nat}(hi:i<=4){d:Dt}(hd:d∈xR (bh.take i)):jg (bh.take i) d=2:=by
 have hP:=Ji i hi;rw [Dt.mem_set,List.mem_map] at hd;obtain ⟨x,hx,rfl⟩:=hd;refine (mG ?_ ?_).2
 .rw [C9 hP.HS hx,Aw hP hx,LK (hP.sub x hx)];rfl
 .rw [List.eq_nil_iff_forall_not_mem]
  intro v hv;obtain ⟨_,h2,h3⟩:=mE.1 hv;obtain ⟨o,hf,_,e1,_⟩:=kg h2;unfold zA rz at h3;rw [e1] at h3;simp only [Bool.and_eq_true,decide_eq_true_eq] at h3;exact AT hi (eS hf).1 h3.1
theorem Jj {i:Nat}{d:Dt}(hd:d∈xR (bh.take i)):d∈xR (bh.take (i+1)):=by
 rw [Dt.mem_set,List.mem_map] at hd ⊢;obtain ⟨x,hx,rfl⟩:=hd;exact ⟨x,(List.take_subset_take_left bh (Nat.le_succ i)) hx,rfl⟩
theorem filter_none {α:Type}{p:α->Bool}{l:List α}(h:∀ x,x∈l->p x=false):l.filter p=[]:=List.filter_eq_nil_iff.2 λ x hx=>by rw [h x hx];decide
theorem sD {i:Nat}(hi:i<4):pW (eN (bh.take i)) (eN (bh.take (i+1)))=[]:=by
 unfold pW;rw [filter_none,set_nil];intro d _;unfold nV;rw [rC,gQ,gQ]
 by_cases h:d∈xR (bh.take i)
 .rw [rD (by omega) h,rD (by omega) (Jj h)];simp
 .simp [h]
theorem AU (K:KM):pW ⟨[],0⟩ K=[]:=by
 unfold pW;rw [filter_none,set_nil];intro d _;unfold nV;simp [MM.has,MM.get]
theorem Dd:pW (eN (bh.take 4)) (eN bh)=[⟨0,4⟩]:=by
 unfold pW;rw [<- IZ ⟨0,4⟩];refine Dt.xO λ d=> ?_
 rw [List.mem_filter,List.mem_singleton,(wR bh).mem_iff,AO];unfold nV;rw [rC,gQ,gQ,Bool.and_eq_true,decide_eq_true_eq,Bool.not_eq_true',decide_eq_false_iff_not];have h4:∀ e,e∈xR (bh.take 4)↔e=⟨0,1⟩\/e=⟨0,2⟩\/e=⟨0,3⟩\/e=⟨0,4⟩:=λ e=>by
  rw [Dt.mem_set];show e∈[(⟨0,1⟩:Dt),⟨0,2⟩,⟨0,3⟩,⟨0,4⟩]↔_;simp
 constructor
 .rintro ⟨_,h2,h3⟩
  rw [rD (by omega) h2] at h3;rcases (h4 d).1 h2 with rfl | rfl | rfl | rfl
  .exact absurd O7.symm h3
  .exact absurd O8.symm h3
  .exact absurd OJ.symm h3
  .rfl
 .rintro rfl
  have hm:(⟨0,4⟩:Dt)∈xR (bh.take 4):=(h4 _).2 (.inr (.inr (.inr rfl)));exact ⟨by simp,hm,by rw [rD (by omega) hm,Oh];decide⟩
theorem LL:nZ (dS bh) (eN bh) ⟨0,4⟩=[⟨1,1⟩]:=by
 unfold nZ;rw [OE];simp only [List.filter_cons,List.filter_nil,gQ,OK,decide_true,if_true]
noncomputable def EN (i:Nat):En:=⟨bh.take i,if i=0 then ⟨[],0⟩ else eN (bh.take i),if i<=4 then vt i else Od 4 1⟩
theorem Jk:EN 0=En.zero:=rfl
theorem J9 {i:Nat}(hi:i<=5):(EN i).kn.wf:=λ r hr=>by
 match i,hi,r,hr with
 | 0,_,0,_ | 0,_,1,_ | 0,_,2,_ | 0,_,3,_ | 0,_,4,_ | 0,_,5,_ | 0,_,6,_ | 0,_,7,_
 | 1,_,0,_ | 1,_,1,_ | 1,_,2,_ | 1,_,3,_ | 1,_,4,_ | 1,_,5,_ | 1,_,6,_ | 1,_,7,_
 | 2,_,0,_ | 2,_,1,_ | 2,_,2,_ | 2,_,3,_ | 2,_,4,_ | 2,_,5,_ | 2,_,6,_ | 2,_,7,_
 | 3,_,0,_ | 3,_,1,_ | 3,_,2,_ | 3,_,3,_ | 3,_,4,_ | 3,_,5,_ | 3,_,6,_ | 3,_,7,_
 | 4,_,0,_ | 4,_,1,_ | 4,_,2,_ | 4,_,3,_ | 4,_,4,_ | 4,_,5,_ | 4,_,6,_ | 4,_,7,_
 | 5,_,0,_ | 5,_,1,_ | 5,_,2,_ | 5,_,3,_ | 5,_,4,_ | 5,_,5,_ | 5,_,6,_ | 5,_,7,_=>show _<_;decide
theorem Jl {i:Nat}(hi:i<5):∃ x,bh[i]? =some x/\x∈bh/\x.dot.wf/\(EN i).may x=true/\(EN i).put x=EN (i+1):=by
 match i,hi with
 | 0,_=>exact ⟨p1,rfl,by simp [bh],by unfold Dt.wf;decide,rfl,rfl⟩
 | 1,_=>exact ⟨p2,rfl,by simp [bh],by unfold Dt.wf;decide,rfl,rfl⟩
 | 2,_=>exact ⟨p3,rfl,by simp [bh],by unfold Dt.wf;decide,rfl,rfl⟩
 | 3,_=>exact ⟨p4,rfl,by simp [bh],by unfold Dt.wf;decide,rfl,rfl⟩
 | 4,_=>exact ⟨p5,rfl,by simp [bh],by unfold Dt.wf;decide,rfl,rfl⟩
theorem Jm {i:Nat}(hi:i<5):pW (EN i).K (EN (i+1)).K=if i=4 then [⟨0,4⟩] else []:=by
 match i,hi with
 | 0,_=>exact AU _
 | 1,_=>exact sD (i:=1) (by decide)
 | 2,_=>exact sD (i:=2) (by decide)
 | 3,_=>exact sD (i:=3) (by decide)
 | 4,_=>exact Dd
end
section
attribute [local irreducible] SW RW aG SC ai ak jQ tH
abbrev Nx (X:Ix)(K:KM):Hp:=[(16,tJ K),(15,.box 110 [.any,.mp 12,.mp 13,.mp 14]),(12,.map (aq Dt.cells ov X.ops) X.co),(13,.map (aq Dt.cells dn X.ch) X.cc),(14,.map (aq Dt.cells dn X.lK) X.cf)]
theorem Jn (X:Ix)(K:KM):(vH X K).aC (· +1)=Nx X K:=by
 simp [Hp.aC,Ob.aC,SV.aR,SV.aC,gP,cg,gL]
theorem Nh (l:List ag)(hl:l.length<=80)(hrow:oN l):SC Tryz.prog verdict_all.f [ops l] [] 1 16 λ r F=>∃ S,∃ h:dh l S,r= .cZ [.mp 16,.ptr 15 0]/\F=Nx h.X (eN l):=by
 have:=SB.at (Gy l hl hrow) (· +1) 1 (λ n m h=>absurd h (Nat.not_lt_zero n)) (λ n h=>absurd h (Nat.not_lt_zero n)) (λ i _=>by show 0+i+1=1+i;omega);rw [show SV.aR (· +1) [ops l]=[ops l] by simp [SV.aR,SV.aC]] at this;refine SC.mono (show SC Tryz.prog verdict_all.f [ops l] [] 1 16 _ from this) ?_;rintro r F ⟨r0,F0,⟨S,h,rfl,rfl⟩,rfl,rfl⟩;exact ⟨S,h,rfl,Jn _ _⟩
theorem Jo (X:Ix)(hX:X.small)(K:KM)(d:Dt)(hh:MM.has X.ops d=true)(hT:(X.jT d).length<1000000000)(k:Nat):aG Tryz.prog verdict_hits.f [.ptr 15 0,.mp 16,.agg d.cells] (Nx X K) k 8 (.gs (k+7) (nZ X.jT K d).length) ((k+7,s_ (nZ X.jT K d) 12)::Nx X K):=by
 have:=SB.mX [15,12,13,14,16] (BP X hX K d hh hT) (by decide) (λ i hi=>by
  match i,hi with
  | 0,_ | 1,_ | 2,_ | 3,_ | 4,_=>simp [aa]) k
 generalize nZ X.jT K d=R at this ⊢;simp [SV.aR,SV.aC,eP,Dt.aA,Hp.aC,Ob.aC,cg,gL,gP,SV.dF] at this;rw [Nat.add_comm 7 k] at this;exact this
noncomputable def vf (l:List ag)(d:Dt):SV:=if bW l d then .cZ [bE (nZ (dS l) (eN l) d),i64 0] else .cZ [.d .aN,i64 7]
set_option maxHeartbeats 8000000 in
theorem GI (l:List ag)(hl:l.length<=80)(hrow:oN l)(d:Dt):Go.Sl.Pure Tryz.prog verdict_Hits.f [ops l,.agg d.cells] (vf l d):=by
 refine verdict_Hits.enter (by first | rfl | simp [SV.ok,SV.av]) (by first | rfl | simp [Hp.ok,Ob.ok,SV.ok,SV.av,aB.aj]) (by simp) ?_;dsimp only [verdict_Hits.s,Co.M,Co.J,Co.F,Co.Z,Co.b8,Co.K,Co.E,Co.P,Co.R,Co.x,Co.S];refine SW.seq (SW.g0 [0,1,3,4,5,6,7,16] Zm af ?_);refine SW.seq (SW.vW ?_);(repeat (first | refine bk.op af (h:= ?_) | refine bk.dA af (h:= ?_) | refine bk.skip (h:= ?_)));refine bk.bg (Nh l hl hrow) (HSub.nil _) (h:= ?_);rintro _ _ ⟨S,h,rfl,rfl⟩;simp only [bP,cR,cU,f_,gD,dm,lk,List.lookup,Nat.reduceBEq,BEq.rfl,beq_self_eq_true,if_true,if_false,reduceIte,Nat.reduceEqDiff,Bool.false_eq_true,Option.isSome_some,Option.isSome_none,Nat.reduceAdd];(repeat (first | refine bk.op af (h:= ?_) | refine bk.dA af (h:= ?_) | refine bk.skip (h:= ?_)));refine bk.nil ?_;have hsm:=h.small hl;have hT:=h.J6 hl d;have hhas:MM.has h.X.ops d=bW l d:=by rw [h.F8,h.sQ]
 have hlk:=pH (eN l).m d;change _=SV.d (.int .u8 (((eN l).get d:Nat):Int)) at hlk;rw [gQ] at hlk;refine SW.seq (SW.seq ?_);unfold vf;cases hg:bW l d with
 | false=>
  have e0:jg l d=0:=by unfold jg;rw [if_neg (by rw [hg];decide)]
  rw [e0] at hlk;have z0:((((0:Nat):Int)) == 0)=true:=rfl;refine SW.g0 [0,1,3,4,5,6,7,16] Zm (Zq hlk z0) ?_;refine SW.an rfl (SW.seq ?_);refine SW.g0 [0,1,3,4,5,6,7,16] Zm af ?_;refine SW.ret ?_;exact End.mk [] (h4:=⟨rfl,rfl⟩)
 | true=>
  obtain ⟨n,hn⟩:∃ n,jg l d=n:=⟨_,rfl⟩;have hn0:n≠0:=by
   rw [<- hn];unfold jg;rw [if_pos hg];split <;> decide
  rw [hn] at hlk;have z0:((n:Int) == 0)=false:=by
   have:(n:Int)≠0:=by omega
   simpa using this
  refine SW.g0 [0,1,3,4,5,6,7,16] Zm (Zq hlk z0) ?_;refine SW.ah rfl (SW.skip (SW.seq ?_));have cH:=Jo h.X hsm (eN l) d (by rw [hhas,hg]) hT 17;rw [h.BN] at cH;generalize nZ (dS l) (eN l) d=R at cH ⊢;refine SW.g1 [0,1,3,4,5,6,7,16] Zm af cH ?_;refine SW.freeze 24 (R.flatMap Dt.ds) rfl rfl ?_;simp only [lR,SV.iw,List.map_cons,List.map_nil,if_true,if_false,reduceIte,Nat.reduceEqDiff];refine SW.ret ?_;exact End.mk [] (h4:=⟨rfl,rfl⟩)
theorem GJ (l:List ag)(hl:l.length<=80)(hrow:oN l)(d:Dt)(k:Nat):aG Tryz.prog verdict_Hits.f [ops l,.agg d.cells] [] k 0 (vf l d) []:=(GI l hl hrow d).sc (by unfold vf;split <;> rfl) k
theorem Jp (e r m:Nat)(hd:[e,r,m].Nodup)(E:En)(hw:E.kn.wf)(o:ag)(ho:o.dot.wf)(hm:E.may o=true)(vC:(E.l++[o]).length<=80)(hrow:oN (E.l++[o]))(lE:∀ k,aG Tryz.prog slices_Clone_Lapi_Claim_api_Claim.f [.d o.lines] [] k 0 (.d o.lines) [])(k:Nat):
  aG Tryz.prog verdict_Engine_Put.f [.ptr e 0,.agg o.cells] (eH e r m E) k 6 (.cZ [bE (pW E.K (E.put o).K),i64 0]) (eH e (k+4) (k+5) (E.put o)):=by
 have:=SB.mX [e,r,m] (Jh E hw o ho hm vC hrow lE) hd (λ i hi=>BR E i hi) k;rw [sC,sC] at this;have e7:eP [e,r,m] k 7=k+4:=by simp [eP];omega
 have e8:eP [e,r,m] k 8=k+5:=by simp [eP];omega
 rw [e7,e8] at this
 simpa [SV.aR,SV.aC,eP,ag.aA] using this
theorem De (e r m:Nat)(hd:[e,r,m].Nodup)(E:En)(hw:E.kn.wf)(o:ag)(ho:o.dot.wf)(hm:E.may o=false)(k:Nat):aG Tryz.prog verdict_Engine_Put.f [.ptr e 0,.agg o.cells] (eH e r m E) k 0 (.cZ [.d .aN,i64 9]) (eH e r m E):=by
 have:=SB.mX [e,r,m] (Jf E hw o ho hm) hd (λ i hi=>BR E i hi) k;rw [sC] at this
 simpa [SV.aR,SV.aC,eP,ag.aA] using this
end
section
attribute [local irreducible] SW RW aG SC ai ak jQ tH
set_option maxRecDepth 100000 in
set_option maxHeartbeats 4000000 in
theorem Df:Go.Sl.Pure Tryz.prog law19_row.f [] (ops [q1,q2,q3,q4,q5]):=by
 refine law19_row.enter (by first | rfl | simp [SV.ok,SV.av]) (by first | rfl | simp [Hp.ok,Ob.ok,SV.ok,SV.av,aB.aj]) (by simp) ?_;dsimp only [law19_row.s,Co.M,Co.J,Co.F,Co.b8,Co.ay,Co.bw,Co.z8,Co.bD,Co.K,Co.W,Co.S];refine SW.seq (SW.g0 [0,1] Zm af ?_);refine SW.seq (SW.g0 [0,1] Zm af ?_);refine SW.seq ?_
 (refine SW.bS [0,1] Zm ?_;(repeat (first | refine RW.AH q1.cells rfl rfl (by decide) (h:= ?_) | refine RW.AH q2.cells rfl rfl (by decide) (h:= ?_) | refine RW.AH q3.cells rfl rfl (by decide) (h:= ?_) | refine RW.AH q4.cells rfl rfl (by decide) (h:= ?_) | refine RW.AH q5.cells rfl rfl (by decide) (h:= ?_) | refine N3 q1 q2 q3 q4 q5 rfl rfl rfl rfl rfl rfl (h:= ?_) | refine RW.ro af (h:= ?_) | refine RW.skip (h:= ?_) | refine RW.op af (h:= ?_) | refine RW.dA af (h:= ?_) | refine RW.a_ (h:= ?_)));refine RW.nil ⟨by kernel_rfl,ak.mk (h:= ?_)⟩)
 refine SW.ret ?_;exact End.mk [] (h4:=⟨rfl,rfl⟩)
theorem Dg (k:Nat):aG Tryz.prog law19_row.f [] [] k 0 (ops bh) []:=by
 have h0:aG Tryz.prog law19_row.f [] [] k 0 (ops [q1,q2,q3,q4,q5]) []:=Df.sc rfl k;refine SC.MW h0 λ p μ M u hu=> ?_
 rw [Rp.b_] at hu ⊢;have:=bK.Oq hu;rw [<- Ec] at this;exact this
def q6:ag:=⟨⟨0,6⟩,aB.zero,0,0,⟨0,0⟩,0,⟨0,0⟩,0,0,0,0,⟨0,0⟩,⟨0,0⟩,0,0,0,.aN⟩
theorem Oi (i:Nat):(EN i).l=bh.take i:=rfl
theorem GK {i:Nat}(hi:i<5):∃ x,bh[i]? =some x/\∀ k,aG Tryz.prog verdict_Engine_Put.f [.ptr 0 0,.agg x.cells] (eH 0 1 2 (EN i)) k 6 (.cZ [bE (if i=4 then [⟨0,4⟩] else []),i64 0]) (eH 0 (k+4) (k+5) (EN (i+1))):=by
 obtain ⟨x,h1,h2,h3,h4,h5⟩:=Jl hi;refine ⟨x,h1,λ k=> ?_⟩;have hl:(EN i).l++[x]=bh.take (i+1):=by rw [Oi,dG h1]
 have hx:=zu x h2;have:=Jp 0 1 2 (by decide) (EN i) (J9 (by omega)) x h3 h4 (by rw [hl,List.length_take];have:bh.length=5:=rfl;omega) (by rw [hl];exact λ o ho=>u_ o (List.mem_of_mem_take ho)) (λ k=>by rw [hx.2.1.eq];exact (wz x.cl hx.2.2).sc rfl k) k;rw [h5,Jm hi] at this;exact this
theorem Ni:sS (EN 5) ⟨0,4⟩= .cZ [.d (.int .u8 1),i64 0]:=by
 have e:(EN 5).K=eN bh:=rfl;unfold sS;rw [e,rC,if_pos (by rw [AO];decide),gQ,Oh];rfl
theorem O_ (k:Nat):aG Tryz.prog verdict_Hits.f [ops bh,.agg (Dt.mk 0 4).cells] [] k 0 (.cZ [bE [⟨1,1⟩],.d (.int .i64 0)]) []:=by
 have:=GJ bh (by decide) u_ ⟨0,4⟩ k;unfold vf at this;rw [if_pos Nv,LL] at this;exact this
theorem Oj (k:Nat):aG Tryz.prog ref03_Same.f [bE [⟨0,4⟩],.d (.sl 1 (Dt.mk 0 4).ds)] [] k 0 (.d (.bool true)) []:=Bk [⟨0,4⟩] [⟨0,4⟩] (by decide) (by decide) k
theorem rE {K:KM}{d:Dt}{n:Nat}(h:K.get d=n):fu (aq Dt.cells kv K.m) (.d (.int .u8 0)) (MM.idx K.m d)= .d (.int .u8 (n:Int)):=by
 have:=pH K.m d;change _=SV.d (.int .u8 ((K.get d:Nat):Int)) at this;rw [this,h]
set_option maxHeartbeats 16000000 in
theorem Dh:Go.Sl.Pure Tryz.prog law19_head.f [] (bl true):=by
 refine law19_head.enter (by first | rfl | simp [SV.ok,SV.av]) (by first | rfl | simp [Hp.ok,Ob.ok,SV.ok,SV.av,aB.aj]) (by simp) ?_;dsimp only [law19_head.s,Co.M,Co.G,Co.J,Co.H,Co.F,Co.C,Co.Z,Co.B,Co.b8,Co.ay,Co.bD,Co.K,Co.E,Co.L,Co.P,Co.Q,Co.Y,Co.U,Co.I,Co.S];refine SW.seq (SW.g0 [0,1,2,3,4,5,6,7,8,10,11,12,13,14,43,45,63] Zm af ?_);refine SW.seq (SW.g1 [0,1,2,3,4,5,6,7,8,10,11,12,13,14,43,45,63] Zm af Dg ?_);have cO:=Gz bh (by decide) u_ 0;have m5:(aq Dt.cells kv (eN bh).m).length=5:=by rw [show (aq Dt.cells kv (eN bh).m).length=(eN bh).m.length by simp [aq]];exact O9
 have k4:=rE (K:=eN bh) (d:=⟨0,4⟩) (n:=1) (by rw [gQ];exact Oh);have k3:=rE (K:=eN bh) (d:=⟨0,3⟩) (n:=2) (by rw [gQ];exact OJ);have k5:=rE (K:=eN bh) (d:=⟨1,1⟩) (n:=2) (by rw [gQ];exact OK);generalize eN bh=K at cO m5 k4 k3 k5;refine SW.seq (SW.g1 [0,1,2,3,4,5,6,7,8,10,11,12,13,14,43,45,63] Zm af cO ?_);refine SW.seq (SW.g1 [0,1,2,3,4,5,6,7,8,10,11,12,13,14,43,45,63] Zm af (Jc 1) ?_);refine SW.seq (SW.seq (SW.g0 [0,1,2,3,4,5,6,7,8,10,11,12,13,14,43,45,63] Zm (Zq m5 (Zq k4 (Zq k3 (Zq k5 (Zq d4 (Zq d3 Nc)))))) ?_));refine SW.ah rfl (SW.skip ?_);refine SW.seq (SW.seq (SW.g0 [0,1,2,3,4,5,6,7,8,10,11,12,13,14,43,45,63] Zm af ?_));refine SW.block (SW.loop (α:={i:Nat // i<=4}) (λ i=>⟨[(4,i64 i.1),(3,.ptr 0 0),(1,ops bh)],eH 0 1 2 (EN i.1),3⟩) (λ i=>4 - i.1) ⟨0,by decide⟩ (λ n=>if n=0 then 2 else if n=1 then 3 else 1) ?_ ?_)
 .refine ⟨Nat.zero_le _,λ n hn=>absurd hn (Nat.not_lt_zero n),?_,?_,?_⟩
  .simp [aL,List.lookup,SV.aC,SV.ok,SV.aR,SV.av]
  .rw [Jk]
   simp [s7,aa,Ob.aC,Ob.ok,rB,vc,gP,dO,SV.aR,SV.aC,SV.dF,SV.av,SV.ok,SV.aX,En.zero];exact ⟨rfl,rfl,rfl⟩
  .intro a ha b hb e
   simp only [List.map_cons,List.map_nil,List.mem_cons,List.not_mem_nil,or_false] at ha hb;rcases ha with rfl | rfl | rfl <;> rcases hb with rfl | rfl | rfl <;> simp at e <;> rfl
 rintro ⟨i,hi⟩;dsimp only
 by_cases h:i<4
 .have h1:decide ((i:Int)<4)=true:=by simp only [decide_eq_true_eq];omega
  have e2:IntKind.i64.wrap ((i:Int)+1)=((i+1:Nat):Int):=wrap_i64 _ (by omega);obtain ⟨x,hx,cP⟩:=GK (i:=i) (by omega);rw [if_neg (by omega)] at cP;have hpl:=fV hx;have cP3:aG Tryz.prog verdict_Engine_Put.f [.ptr 0 0,.agg x.cells] (eH 0 1 2 (EN i)) 3 6 (.cZ [bE [],i64 0]) (eH 0 7 8 (EN (i+1))):=cP 3;obtain ⟨E1,n9⟩:∃ E1,EN (i+1)=E1:=⟨_,rfl⟩;rw [n9] at cP3;refine SW.seq (SW.seq (SW.g0 [0,1,2,3,4,5,6,7,8,10,11,12,13,14,43,45,63] Zm h1 ?_));refine SW.an rfl (SW.skip ?_);refine SW.seq (SW.block (SW.seq (SW.g1 [0,1,2,3,4,5,6,7,8,10,11,12,13,14,43,45,63] Zm (Zq (sL hx) (kS hx)) cP3 ?_)));refine SW.seq (SW.g0 [0,1,2,3,4,5,6,7,8,10,11,12,13,14,43,45,63] Zm af ?_);refine SW.ah rfl (SW.skip ?_);refine SW.g0 [0,1,2,3,4,5,6,7,8,10,11,12,13,14,43,45,63] Zm e2 ?_;refine ⟨⟨i+1,by omega⟩,λ n=>if n=1 then 7 else if n=2 then 8 else n,by show 4 - (i+1)<4 - i;omega,?_⟩;dsimp only;rw [n9];refine ⟨Nat.zero_le _,λ n hn=>absurd hn (Nat.not_lt_zero n),?_,?_,?_⟩
  .simp [aL,List.lookup,SV.aC,SV.ok,SV.aR,SV.av]
  .simp [s7,aa,Ob.aC,Ob.ok,rB,vc,gP,dO,SV.aR,SV.aC,SV.dF,SV.av,SV.ok,SV.aX]
  .intro a ha b hb e
   simp only [List.map_cons,List.map_nil,List.mem_cons,List.not_mem_nil,or_false] at ha hb;rcases ha with rfl | rfl | rfl <;> rcases hb with rfl | rfl | rfl <;> simp at e <;> rfl
 have h1:decide ((i:Int)<4)=false:=by simp only [decide_eq_false_iff_not];omega
 have h4:i=4:=by omega
 subst h4;refine SW.seq (SW.seq (SW.g0 [0,1,2,3,4,5,6,7,8,10,11,12,13,14,43,45,63] Zm h1 ?_));refine SW.ah rfl (SW.exit ?_);refine (?_:Sl.SW _ _ _ _ _ _);obtain ⟨x,hx,cP⟩:=GK (i:=4) (by omega);rw [if_pos rfl] at cP;have hpl:=fV hx;obtain rfl:x=p5:=(Option.some.inj hx).symm;have cP3:aG Tryz.prog verdict_Engine_Put.f [.ptr 0 0,.agg p5.cells] (eH 0 1 2 (EN 4)) 3 6 (.cZ [bE [⟨0,4⟩],i64 0]) (eH 0 7 8 (EN 5)):=cP 3;have cN:∀ k,aG Tryz.prog verdict_Engine_Put.f [.ptr 0 0,.agg q6.cells] (eH 0 7 8 (EN 5)) k 0 (.cZ [.d .aN,i64 9]) (eH 0 7 8 (EN 5)):=De 0 7 8 (by decide) (EN 5) (J9 (by decide)) q6 (by unfold Dt.wf;decide) rfl;have cT:=Ja 0 7 8 (by decide) (EN 5) ⟨0,4⟩;rw [Ni] at cT;refine SW.seq (SW.g1 [0,1,2,3,4,5,6,7,8,10,11,12,13,14,43,45,63] Zm (Zq (sL hx) (kS hx)) cP3 ?_);refine SW.seq ?_
 (refine SW.bS [0,1,2,3,4,5,6,7,8,10,11,12,13,14,43,45,63] Zm ?_;(repeat (first | refine RW.AH (Dt.mk 0 6).cells rfl rfl (by decide) (h:= ?_) | refine RW.AH q6.cells rfl rfl (by decide) (h:= ?_) | refine RW.ro af (h:= ?_) | refine RW.skip (h:= ?_) | refine RW.op af (h:= ?_) | refine RW.dA af (h:= ?_) | refine RW.a_ (h:= ?_) | (refine RW.bg (h:= ?_);(first | refine ai.mk af (hc:=cN _) (h:= ?_)))));refine RW.nil ⟨cu (by kernel_rfl),ak.mk (h:= ?_)⟩)
 refine SW.seq (SW.g1 [0,1,2,3,4,5,6,7,8,10,11,12,13,14,43,45,63] Zm d4 cT ?_);refine SW.seq (SW.g1 [0,1,2,3,4,5,6,7,8,10,11,12,13,14,43,45,63] Zm d4 O_ ?_);refine SW.seq (SW.g2 [0,1,2,3,4,5,6,7,8,10,11,12,13,14,43,45,63] Zm (Zq d4 Nc) Oj O4 ?_);refine SW.ret ?_;exact End.mk [] (h4:=⟨rfl,rfl⟩)
theorem mH (k:Nat):aG Tryz.prog law19_head.f [] [] k 0 (.d (.bool true)) []:=Dh.sc rfl k
end
section
attribute [local irreducible] SW RW aG SC ai ak jQ tH
noncomputable def vD (l:List ag)(o:ag)(ys:List ag):Bool:=ys.any λ y=>decide (jg l y.dot=2) && rz l (l5 l y.dot) o
theorem Di (l:List ag)(o:ag)(ys:List ag)(y:ag):vD l o (ys++[y])=(vD l o ys || (decide (jg l y.dot=2) && rz l (l5 l y.dot) o)):=by
 unfold vD;rw [List.any_append];simp
theorem xT {l:List ag}{t:Dt}(hg:bW l t=true):jg l t=2↔C8 l t=true:=by
 unfold jg;rw [if_pos hg]
 split <;> simp_all
theorem AV {l:List ag}{d:Dt}:jg l d<=2/\(jg l d=0↔bW l d=false)/\(bW l d=true->(jg l d=1↔C8 l d=false)):=by
 unfold jg;cases bW l d <;> cases C8 l d <;> simp
theorem Dj {l:List ag}{d:Dt}(hg:bW l d=true):vD l (l5 l d) l=decide (jg l d=1):=by
 rw [Bool.eq_iff_iff,decide_eq_true_eq,AV.2.2 hg,vb,List.all_eq_false];unfold vD;rw [List.any_eq_true];constructor
 .rintro ⟨y,hy,h⟩
  rw [Bool.and_eq_true,decide_eq_true_eq] at h;have hgy:bW l y.dot=true:=by
   cases hh:bW l y.dot with
   | true=>rfl
   | false=>have:=AV.2.1.2 hh;omega
  exact ⟨y.dot,mE.2 ⟨hg,hgy,h.2⟩,by rw [(xT hgy).1 h.1];decide⟩
 .rintro ⟨t,ht,h⟩
  obtain ⟨_,h2,h3⟩:=mE.1 ht;obtain ⟨o,hf,_,_,hd⟩:=kg h2;have hv:C8 l t=true:=by simpa using h
  refine ⟨o,(eS hf).1,?_⟩;rw [hd,Bool.and_eq_true,decide_eq_true_eq];exact ⟨(xT h2).2 hv,h3⟩
theorem GL {l:List ag}{d:Dt}(hg:bW l d=true)(hn:(fO l (l5 l d)).length<=1):jg l d=2:=by
 refine (xT hg).2 ?_;rw [vb,List.all_eq_true];intro t ht;obtain ⟨h1,h2,h3⟩:=mE.1 ht;obtain ⟨o,_,ho,e1,_⟩:=kg h1;obtain ⟨r,_,hr,e2,_⟩:=kg h2;unfold zA rz at h3;rw [e1,e2] at h3;simp only [Bool.and_eq_true,decide_eq_true_eq] at h3;have:=(BJ ho hr h3.1 h3.2.1).2.1;rw [e1] at hn;omega
set_option maxHeartbeats 16000000 in
theorem AW (l :List ag)(hd:∀ o,o∈l->o.aT<256/\o.kind<256/\o.nT/\o.dot.wf/\o.cl.length<=140737488351232)(hlen:l.length<=9223372036854775807):
    SB Tryz.prog law19_VerdictWins.f [ops l] [] 0 0 (λ r F=>r=bl true):=by
  refine law19_VerdictWins.enter (by first | rfl | simp [SV.ok,SV.av]) (by first | rfl | simp [Hp.ok,Ob.ok,SV.ok,SV.av,aB.aj]) (by simp) ?_;dsimp only [law19_VerdictWins.s,Co.M,Co.G,Co.J,Co.H,Co.F,Co.C,Co.Z,Co.B,Co.b8,Co.bD,Co.K,Co.E,Co.L,Co.P,Co.Q,Co.W,Co.Y,Co.V,Co.U,Co.O,Co.D,Co.I,Co.S];have hG':=Ei l (λ o ho=>⟨_,_,(hd o ho).2.2.1.eq,(hd o ho).2.2.1.le⟩) hlen;refine SW.seq (SW.g0 [0,2,3,4,5,7,8,9,10,11,13,21,28,62,64,68,113] Zm af ?_);refine SW.seq (SW.seq ?_);rcases hG:jA l with _ | _
  rotate_left
  . rw [hG] at hG'
    refine SW.g2 [0,2,3,4,5,7,8,9,10,11,13,21,28,62,64,68,113] Zm af hG' mH ?_;refine SW.an rfl (SW.seq ?_);refine SW.g2 [0,2,3,4,5,7,8,9,10,11,13,21,28,62,64,68,113] Zm af hG' mH ?_;refine SW.ret ?_;exact End.mk [] (h4:=rfl)
  rw [hG] at hG';have vC:=wj hG;have hd':=zn hG (λ o ho=>⟨(hd o ho).2.2.1,(hd o ho).2.2.2.2⟩);have hd3:∀ o,o∈l->o.aT<256/\o.nT/\o.dot.wf:=λ o ho=>⟨(hd o ho).1,(hd o ho).2.2.1,(hd o ho).2.2.2.1⟩
  have hrow:oN l:=λ o ho=>⟨(hd o ho).2.1,(hd o ho).2.2.1,hd' o ho⟩
  rcases h60:decide ((l.length:Int)>60) with _ | _
  rotate_left
  . skip
    refine SW.g2 [0,2,3,4,5,7,8,9,10,11,13,21,28,62,64,68,113] Zm h60 hG' mH ?_;refine SW.an rfl (SW.seq ?_);refine SW.g2 [0,2,3,4,5,7,8,9,10,11,13,21,28,62,64,68,113] Zm af hG' mH ?_;refine SW.ret ?_;exact End.mk [] (h4:=rfl)
  refine SW.g1 [0,2,3,4,5,7,8,9,10,11,13,21,28,62,64,68,113] Zm h60 hG' ?_;refine SW.ah rfl (SW.skip ?_);have cO:=Gz l vC hrow 0;have hKg:∀ d,(eN l).get d=jg l d:=gQ l;have hKh:=rC l;have hKl:=zK l;generalize eN l=K at cO hKg hKh hKl;refine SW.seq ?_;refine SW.g1 [0,2,3,4,5,7,8,9,10,11,13,21,28,62,64,68,113] Zm af cO ?_;refine SW.seq (SW.seq ?_);refine SW.g0 [0,2,3,4,5,7,8,9,10,11,13,21,28,62,64,68,113] Zm af ?_;refine SW.block ?_;refine SW.loop (α:={i:Nat // i<=l.length}) (λ i=>⟨[(4,i64 i.1),(3,.mp 0),(0,ops l)],[(0,tJ K)],1⟩) (λ i=>l.length - i.1) ⟨0,Nat.zero_le _⟩ id (aQ.same (Nat.zero_le _) (by simp [aL,List.lookup,SV.aC,SV.ok,SV.av]) (by simp [Hp.ok,Ob.ok,dO]) (λ y hy=>by
    simp only [List.mem_cons,List.not_mem_nil,or_false] at hy;rcases hy with rfl;rfl)) ?_
  rintro ⟨i,hi⟩;dsimp only
  by_cases h:i<l.length
  . obtain ⟨x,hx⟩:=br h
    have h1:decide ((i:Int)<l.length)=true:=by simp only [decide_eq_true_eq];omega
    have e2:IntKind.i64.wrap ((i:Int)+1)=((i+1:Nat):Int):=wrap_i64 _ (by omega);have hxm:=List.mem_of_getElem? hx;have hin:(aF l x.dot).isSome=true:=iY.2 ⟨x,hxm,rfl⟩;have cF:=u5 l (by omega) x.dot;rw [hin] at cF;obtain ⟨o,ho⟩:∃ o,l5 l x.dot=o:=⟨_,rfl⟩;have hod:o.dot=x.dot:=by
      obtain ⟨y,hy⟩:=Option.isSome_iff_exists.1 hin;rw [<- ho,bz hy];exact dN hy
    have hhas:MM.has K.m x.dot=true:=by rw [hKh,decide_eq_true_eq];exact BO.2 hin
    rw [ho] at cF;have z0:bX Bb 0 o.cells=o.cells:=rfl;have d0:List.take 2 o.cells=o.dot.cells:=rfl;have l0:(0+2<=o.cells.length)=True:=eq_true (by rw [show o.cells.length=29 from rfl];decide);refine SW.seq (SW.seq (SW.g0 [0,2,3,4,5,7,8,9,10,11,13,21,28,62,64,68,113] Zm h1 ?_));refine SW.an rfl (SW.skip ?_);refine SW.seq (SW.block (SW.seq (SW.g1 [0,2,3,4,5,7,8,9,10,11,13,21,28,62,64,68,113] Zm (Zq (qS hx) (Zq (oA hx) (z0))) cF ?_)));have hlk:=rE (hKg x.dot);refine SW.seq (SW.g0 [0,2,3,4,5,7,8,9,10,11,13,21,28,62,64,68,113] Zm (Zq d0 (Zq l0 (Zq hod (Zq hlk hhas)))) ?_);have cG:=zy vC hd3 x.dot;obtain ⟨v2,v0,v1⟩:=AV (l:=l) (d:=x.dot);have hvd:=Dj (l:=l) (d:=x.dot);have C7:=GL (l:=l) (d:=x.dot);obtain ⟨v,hv⟩:∃ v,jg l x.dot=v:=⟨_,rfl⟩;rw [hv] at v2 v0 v1 hvd C7 ⊢;rw [ho] at hvd C7;have gt2:decide ((v:Int)>2)=false:=by simp only [decide_eq_false_iff_not];omega
    refine SW.seq (SW.seq ?_);cases hg:bW l x.dot with
    | false=>
      rw [hg] at cG;have e0:v=0:=v0.2 hg;subst e0;have z1:(((0:Nat):Int) == 0)=true:=rfl;refine SW.g1 [0,2,3,4,5,7,8,9,10,11,13,21,28,62,64,68,113] Zm (Zq d0 (Zq l0 (Zq hod (Zq gt2 z1)))) cG ?_;refine SW.ah rfl (SW.skip ?_);refine SW.seq (SW.seq ?_);refine SW.g0 [0,2,3,4,5,7,8,9,10,11,13,21,28,62,64,68,113] Zm z1 ?_;refine SW.an rfl (SW.exit ?_);refine (?_:Sl.SW _ _ _ _ _ _);refine SW.g0 [0,2,3,4,5,7,8,9,10,11,13,21,28,62,64,68,113] Zm e2 ?_;exact ⟨⟨i+1,by omega⟩,id,by show l.length - (i+1)<_;omega,aQ.same (Nat.zero_le _) (by simp [aL,List.lookup,SV.aC,SV.ok,SV.av]) (by simp [Hp.ok,Ob.ok,dO]) (λ y hy=>by
        simp only [List.mem_cons,List.not_mem_nil,or_false] at hy;rcases hy with rfl;rfl)⟩
    | true=>
      rw [hg] at cG;have hv0:v≠0:=λ e=>by rw [v0.1 e] at hg;cases hg
      have z1:((v:Int) == 0)=false:=by
        have:(v:Int)≠0:=by omega
        simpa using this
      refine SW.g1 [0,2,3,4,5,7,8,9,10,11,13,21,28,62,64,68,113] Zm (Zq d0 (Zq l0 (Zq hod (Zq gt2 z1)))) cG ?_;refine SW.ah rfl (SW.skip ?_);refine SW.seq (SW.seq ?_);refine SW.g0 [0,2,3,4,5,7,8,9,10,11,13,21,28,62,64,68,113] Zm z1 ?_;refine SW.ah rfl (SW.skip ?_);refine SW.seq ?_;refine SW.g0 [0,2,3,4,5,7,8,9,10,11,13,21,28,62,64,68,113] Zm af ?_;refine SW.seq (SW.seq ?_);refine SW.g0 [0,2,3,4,5,7,8,9,10,11,13,21,28,62,64,68,113] Zm af ?_;refine SW.block ?_;refine SW.loop (α:={k:Nat // k<=l.length}) (λ k=>⟨[(10,i64 k.1),(9,bl (vD l o (l.take k.1))),(7,.d (.int .u8 (v:Int))),(5,.ptr 1 0),(4,i64 i),(3,.mp 0),(0,ops l)],[(1,.box 43 o.cells),(0,tJ K)],2⟩) (λ k=>l.length - k.1) ⟨0,Nat.zero_le _⟩ id (aQ.same (Nat.zero_le _) (by simp [aL,List.lookup,SV.aC,SV.ok,SV.av,vD]) (by simp [Hp.ok,Ob.ok,dO,ag.aj]) (λ y hy=>by
        simp only [List.mem_cons,List.not_mem_nil,or_false] at hy;rcases hy with rfl | rfl <;> rfl)) ?_
      rintro ⟨k,hk⟩;dsimp only
      by_cases hkl:k<l.length
      . obtain ⟨y,hy⟩:=br hkl
        have h3:decide ((k:Int)<l.length)=true:=by simp only [decide_eq_true_eq];omega
        have e4:IntKind.i64.wrap ((k:Int)+1)=((k+1:Nat):Int):=wrap_i64 _ (by omega);have hym:=List.mem_of_getElem? hy;have hiy:(aF l y.dot).isSome=true:=iY.2 ⟨y,hym,rfl⟩;have cFy:=u5 l (by omega) y.dot;rw [hiy] at cFy;have hsn:=Di l o (l.take k) y;rw [<- dG hy] at hsn;obtain ⟨r,hr⟩:∃ r,l5 l y.dot=r:=⟨_,rfl⟩;have hrd:r.dot=y.dot:=by
          obtain ⟨z,hz⟩:=Option.isSome_iff_exists.1 hiy;rw [<- hr,bz hz];exact dN hz
        rw [hr] at cFy hsn;have zr:bX Bb 0 r.cells=r.cells:=rfl;have dr:List.take 2 r.cells=r.dot.cells:=rfl;have lr:(0+2<=r.cells.length)=True:=eq_true (by rw [show r.cells.length=29 from rfl];decide);have tr:List.take 29 r.cells=r.cells:=rfl;have lr2:(0+29<=r.cells.length)=True:=eq_true (by rw [show r.cells.length=29 from rfl];decide);have to:List.take 29 o.cells=o.cells:=rfl;have lo2:(0+29<=o.cells.length)=True:=eq_true (by rw [show o.cells.length=29 from rfl];decide);have hly:=rE (hKg y.dot);have cT:=Ga vC hd3 r o;obtain ⟨b,hb⟩:∃ b,vD l o (l.take k)=b:=⟨_,rfl⟩;rw [hb] at hsn ⊢;have next:∀ (env:List (Nat×SV)) (hp:Hp) (kz:Nat),(∀ z,z∈[((1:Nat),Ob.box 43 o.cells),(0,tJ K)]->lk hp z.1=some z.2)->aL id 2 env [(10,i64 ((k+1:Nat):Int)),(9,bl (vD l o (l.take (k+1)))),(7,.d (.int .u8 (v:Int))),(5,.ptr 1 0),(4,i64 i),(3,.mp 0),(0,ops l)]->
            ∃ (j:{k:Nat // k<=l.length}) (ρ:Nat->Nat),l.length - j.1<l.length - k/\aQ 0 ⟨env,hp,kz⟩ ⟨[(10,i64 j.1),(9,bl (vD l o (l.take j.1))),(7,.d (.int .u8 (v:Int))),(5,.ptr 1 0),(4,i64 i),(3,.mp 0),(0,ops l)],[(1,.box 43 o.cells),(0,tJ K)],2⟩ ρ:=λ env hp kz g1 g2=>
          ⟨⟨k+1,by omega⟩,id,by show l.length - (k+1)<l.length - k;omega,aQ.same (Nat.zero_le _) g2 (by simp [Hp.ok,Ob.ok,dO,ag.aj]) g1⟩
        refine SW.seq (SW.seq (SW.g0 [0,2,3,4,5,7,8,9,10,11,13,21,28,62,64,68,113] Zm h3 ?_));refine SW.an rfl (SW.skip ?_);refine SW.seq (SW.block (SW.seq (SW.g1 [0,2,3,4,5,7,8,9,10,11,13,21,28,62,64,68,113] Zm (Zq (qS hy) (Zq (oA hy) (zr))) cFy ?_)));cases b with
        | true=>
          refine SW.g0 [0,2,3,4,5,7,8,9,10,11,13,21,28,62,64,68,113] Zm af ?_;refine SW.g0 [0,2,3,4,5,7,8,9,10,11,13,21,28,62,64,68,113] Zm e4 ?_;exact next _ _ _ (λ z hz=>by
            simp only [List.mem_cons,List.not_mem_nil,or_false] at hz;rcases hz with rfl | rfl <;> rfl) (by rw [hsn];simp [aL,List.lookup,SV.aC,SV.ok,SV.av])
        | false=>
          obtain ⟨w,hw⟩:∃ w,jg l y.dot=w:=⟨_,rfl⟩;rw [hw] at hly hsn
          by_cases HI:w=2
          . subst HI
            have z2:(((2:Nat):Int) == 2)=true:=rfl;refine SW.g1 [0,2,3,4,5,7,8,9,10,11,13,21,28,62,64,68,113] Zm (Zq dr (Zq lr (Zq hrd (Zq hly (Zq z2 (Zq tr (Zq lr2 (Zq to lo2)))))))) cT ?_;refine SW.g0 [0,2,3,4,5,7,8,9,10,11,13,21,28,62,64,68,113] Zm e4 ?_;exact next _ _ _ (λ z hz=>by
              simp only [List.mem_cons,List.not_mem_nil,or_false] at hz;rcases hz with rfl | rfl <;> rfl) (by rw [hsn];simp [aL,List.lookup,SV.aC,SV.ok,SV.av])
          . have z2:((w:Int) == 2)=false:=by
              have:(w:Int)≠2:=by omega
              simpa using this
            refine SW.g0 [0,2,3,4,5,7,8,9,10,11,13,21,28,62,64,68,113] Zm (Zq dr (Zq lr (Zq hrd (Zq hly z2)))) ?_;refine SW.g0 [0,2,3,4,5,7,8,9,10,11,13,21,28,62,64,68,113] Zm e4 ?_;exact next _ _ _ (λ z hz=>by
              simp only [List.mem_cons,List.not_mem_nil,or_false] at hz;rcases hz with rfl | rfl <;> rfl) (by rw [hsn];simp [aL,List.lookup,SV.aC,SV.ok,SV.av,HI])
      have h3:decide ((k:Int)<l.length)=false:=by simp only [decide_eq_false_iff_not];omega
      rw [List.take_of_length_le (show l.length<=k by omega)];refine SW.seq (SW.seq (SW.g0 [0,2,3,4,5,7,8,9,10,11,13,21,28,62,64,68,113] Zm h3 ?_));refine SW.ah rfl (SW.exit ?_);refine (?_:Sl.SW _ _ _ _ _ _);have cL:=CV vC hd3 x.dot;have hLV:j5 l x.dot= .cZ [.d (.int .i64 (((fO l (l5 l x.dot)).length:Int) - 1)),bl true]:=by unfold j5;rw [if_pos hg]
      rw [hLV,ho] at cL;refine SW.seq (SW.g1 [0,2,3,4,5,7,8,9,10,11,13,21,28,62,64,68,113] Zm (Zq d0 (Zq l0 hod)) cL ?_);rw [hvd hg];have next:∀ (env:List (Nat×SV)) (hp:Hp) (kz:Nat),(∀ z,z∈[((0:Nat),tJ K)]->lk hp z.1=some z.2)->aL id 1 env [(4,i64 ((i+1:Nat):Int)),(3,.mp 0),(0,ops l)]->
          ∃ (j:{i:Nat // i<=l.length}) (ρ:Nat->Nat),l.length - j.1<l.length - i/\aQ 0 ⟨env,hp,kz⟩ ⟨[(4,i64 j.1),(3,.mp 0),(0,ops l)],[(0,tJ K)],1⟩ ρ:=λ env hp kz g1 g2=>
        ⟨⟨i+1,by omega⟩,id,by show l.length - (i+1)<l.length - i;omega,aQ.same (Nat.zero_le _) g2 (by simp [Hp.ok,Ob.ok,dO]) g1⟩
      refine SW.seq ?_
      by_cases hv1:v=1
      . subst hv1
        have y1:(((1:Nat):Int) == 1)=true:=rfl;have y2:decide ((1:Nat)=1)=true:=rfl;have y3:decide ((((fO l o).length:Int) - 1)<=0)=false:=by
          simp only [decide_eq_false_iff_not];intro hh;have:=C7 hg (by omega);omega
        refine SW.g0 [0,2,3,4,5,7,8,9,10,11,13,21,28,62,64,68,113] Zm (Zq y1 (Zq y2 y3)) ?_;refine SW.ah rfl (SW.skip ?_);refine SW.g0 [0,2,3,4,5,7,8,9,10,11,13,21,28,62,64,68,113] Zm e2 ?_;exact next _ _ _ (λ z hz=>by
          simp only [List.mem_cons,List.not_mem_nil,or_false] at hz;rcases hz with rfl;rfl) (by simp [aL,List.lookup,SV.aC,SV.ok,SV.av])
      . have hvv:v=2:=by omega
        subst hvv;have y1:(((2:Nat):Int) == 1)=false:=rfl;have y2:decide ((2:Nat)=1)=false:=rfl;have y4:(((2:Nat):Int) != 2)=false:=rfl;rcases y3:decide ((((fO l o).length:Int) - 1)<=0) with _ | _
        . refine SW.g0 [0,2,3,4,5,7,8,9,10,11,13,21,28,62,64,68,113] Zm (Zq y1 (Zq y2 (Zq y3 y4))) ?_
          refine SW.ah rfl (SW.skip ?_);refine SW.g0 [0,2,3,4,5,7,8,9,10,11,13,21,28,62,64,68,113] Zm e2 ?_;exact next _ _ _ (λ z hz=>by
            simp only [List.mem_cons,List.not_mem_nil,or_false] at hz;rcases hz with rfl;rfl) (by simp [aL,List.lookup,SV.aC,SV.ok,SV.av])
        . refine SW.g0 [0,2,3,4,5,7,8,9,10,11,13,21,28,62,64,68,113] Zm (Zq y1 (Zq y2 (Zq y3 y4))) ?_
          refine SW.ah rfl (SW.skip ?_);refine SW.g0 [0,2,3,4,5,7,8,9,10,11,13,21,28,62,64,68,113] Zm e2 ?_;exact next _ _ _ (λ z hz=>by
            simp only [List.mem_cons,List.not_mem_nil,or_false] at hz;rcases hz with rfl;rfl) (by simp [aL,List.lookup,SV.aC,SV.ok,SV.av])
  have h1:decide ((i:Int)<l.length)=false:=by simp only [decide_eq_false_iff_not];omega
  refine SW.seq (SW.seq (SW.g0 [0,2,3,4,5,7,8,9,10,11,13,21,28,62,64,68,113] Zm h1 ?_));refine SW.ah rfl (SW.exit ?_);refine (?_:Sl.SW _ _ _ _ _ _);have m5:decide ((K.m.length:Int)<=l.length)=true:=by simp only [decide_eq_true_eq];omega
  refine SW.seq (SW.g1 [0,2,3,4,5,7,8,9,10,11,13,21,28,62,64,68,113] Zm m5 mH ?_);refine SW.ret ?_;exact End.mk [] (h4:=rfl)
end
end Go.Proofs.YtaelhkkjgfobhaaGreat
namespace Go.Proofs.YtaelhkkjgfobhaaGreat
open Go.Sl Go.Proofs
theorem Dk {P:Program}{t:TypeId}{ds:List DV}(h:dP P t=some none):qK P t ds= .d (ds.headD .nW):=by simp [qK,h]
set_option maxRecDepth 100000 in
theorem Jq {d:Nat}{ds:List DV}(h:Fit Tryz.prog (d+2) qR ds):∃ v:aB,v.wf/\ds=v.ds:=
 Hx (P:= Tryz.prog) (t:=qR) (e:=Ef) Tryz.underlying39 Tryz.underlying35 (by kernel_rfl) (by kernel_rfl) h
set_option maxRecDepth 100000 in
theorem nP {d:Nat}{ds:List DV}(h:Fit Tryz.prog (d+2) we ds):∃ x:Dt,x.wf/\ds=x.ds:=
 Hy (P:= Tryz.prog) (t:=we) Tryz.underlying37 rfl rfl rfl rfl Tryz.underlying5 Tryz.underlying35 (by kernel_rfl) (by kernel_rfl) (by kernel_rfl) h
set_option maxRecDepth 100000 in
theorem Dl {d:Nat}{ds:List DV}(h:Fit Tryz.prog (d+3) iT ds):∃ x:Cm,x.wf/\ds=x.ds:=by
 have f0:=bQ (P:= Tryz.prog) (t:=iT) Tryz.underlying148 h 0 _ rfl;have f1:=bQ (P:= Tryz.prog) (t:=iT) Tryz.underlying148 h 1 _ rfl;have hl:=xg (P:= Tryz.prog) (t:=iT) Tryz.underlying148 h;rw [show Tryz.prog.cellsOf iT=4 from by kernel_rfl] at hl;obtain ⟨x0,w0,e0⟩:=nP (d:=d) f0;obtain ⟨x1,w1,e1⟩:=nP (d:=d) f1;refine ⟨⟨x0,x1⟩,⟨w0,w1⟩,?_⟩;have g0:ds.drop 0=x0.ds++ds.drop 2:=nJ (n:=2) e0 rfl;have g1:ds.drop 2=x1.ds++ds.drop 4:=nJ (n:=2) e1 rfl;have g:ds.drop 4=[]:=List.drop_of_length_le (by omega);have g':ds=ds.drop 0:=rfl;rw [g',g0,g1,g];rfl
set_option maxRecDepth 100000 in
theorem Dm {d:Nat}{ds:List DV}(h:Fit Tryz.prog (d+4) pU ds):ds=[.aN]\/∃ l:List Cm,(∀ x∈l,x.wf)/\l.length<=9223372036854775807/\ds=[.sl l.length (l.flatMap Cm.ds)]:=
 v7 Cm.ds Cm.wf (P:= Tryz.prog) (t:=pU) (e:=iT) Tryz.underlying41 (λ _ h=>Dl h) h
structure L1 (o:ag):Prop where
 dot:o.dot.wf
 dep:o.dep.wf
 time:o.time<18446744073709551616
 who:o.who<4294967296
 aH:o.aH.wf
 kind:o.kind<256
 aK:o.aK.wf
 to:o.to<4294967296
 aT:o.aT<256
 depth:o.depth<256
 cap:o.cap<18446744073709551616
 at_:o.at_.wf
 jR:o.jR.wf
 item:o.item<4294967296
 Kw:o.Kw<4294967296
 yC:o.yC<4294967296
 lines:o.lines= .aN\/∃ cl:List Cm,o.lines= .sl cl.length (cl.flatMap Cm.ds)/\cl.length<=9223372036854775807
set_option maxRecDepth 100000 in
set_option maxHeartbeats 2000000 in
theorem LM {d:Nat}{ds:List DV}(h:Fit Tryz.prog (d+5) cQ ds):∃ o:ag,L1 o/\ds=o.ds:=by
 have f0:=bQ (P:= Tryz.prog) (t:=cQ) Tryz.underlying43 h 0 _ rfl;have f1:=bQ (P:= Tryz.prog) (t:=cQ) Tryz.underlying43 h 1 _ rfl;have f2:=bQ (P:= Tryz.prog) (t:=cQ) Tryz.underlying43 h 2 _ rfl;have f3:=bQ (P:= Tryz.prog) (t:=cQ) Tryz.underlying43 h 3 _ rfl;have f4:=bQ (P:= Tryz.prog) (t:=cQ) Tryz.underlying43 h 4 _ rfl;have f5:=bQ (P:= Tryz.prog) (t:=cQ) Tryz.underlying43 h 5 _ rfl;have f6:=bQ (P:= Tryz.prog) (t:=cQ) Tryz.underlying43 h 6 _ rfl;have f7:=bQ (P:= Tryz.prog) (t:=cQ) Tryz.underlying43 h 7 _ rfl;have f8:=bQ (P:= Tryz.prog) (t:=cQ) Tryz.underlying43 h 8 _ rfl;have f9:=bQ (P:= Tryz.prog) (t:=cQ) Tryz.underlying43 h 9 _ rfl;have f10:=bQ (P:= Tryz.prog) (t:=cQ) Tryz.underlying43 h 10 _ rfl;have f11:=bQ (P:= Tryz.prog) (t:=cQ) Tryz.underlying43 h 11 _ rfl;have f12:=bQ (P:= Tryz.prog) (t:=cQ) Tryz.underlying43 h 12 _ rfl;have f13:=bQ (P:= Tryz.prog) (t:=cQ) Tryz.underlying43 h 13 _ rfl;have f14:=bQ (P:= Tryz.prog) (t:=cQ) Tryz.underlying43 h 14 _ rfl;have f15:=bQ (P:= Tryz.prog) (t:=cQ) Tryz.underlying43 h 15 _ rfl;have f16:=bQ (P:= Tryz.prog) (t:=cQ) Tryz.underlying43 h 16 _ rfl;have hl:=xg (P:= Tryz.prog) (t:=cQ) Tryz.underlying43 h;rw [show Tryz.prog.cellsOf cQ=29 from by kernel_rfl] at hl;obtain ⟨x0,w0,e0⟩:=nP (d:=d+2) f0;obtain ⟨x1,w1,e1⟩:=Jq (d:=d+2) f1;obtain ⟨x2,w2,e2⟩:=Bf (P:= Tryz.prog) Tryz.underlying40 f2;obtain ⟨x3,w3,e3⟩:=nI (P:= Tryz.prog) Tryz.underlying35 f3;obtain ⟨x4,w4,e4⟩:=nP (d:=d+2) f4;obtain ⟨x5,w5,e5⟩:=xe (P:= Tryz.prog) Tryz.underlying5 f5;obtain ⟨x6,w6,e6⟩:=nP (d:=d+2) f6;obtain ⟨x7,w7,e7⟩:=nI (P:= Tryz.prog) Tryz.underlying35 f7;obtain ⟨x8,w8,e8⟩:=xe (P:= Tryz.prog) Tryz.underlying5 f8;obtain ⟨x9,w9,e9⟩:=xe (P:= Tryz.prog) Tryz.underlying5 f9;obtain ⟨Np,w10,e10⟩:=Bf (P:= Tryz.prog) Tryz.underlying40 f10;obtain ⟨Nq,w11,Ow⟩:=nP (d:=d+2) f11;obtain ⟨Nr,w12,e12⟩:=nP (d:=d+2) f12;obtain ⟨Ns,w13,e13⟩:=nI (P:= Tryz.prog) Tryz.underlying35 f13;obtain ⟨x14,w14,e14⟩:=nI (P:= Tryz.prog) Tryz.underlying35 f14;obtain ⟨x15,w15,e15⟩:=nI (P:= Tryz.prog) Tryz.underlying35 f15;have e16:∃ y,(ds.drop 28).take 1=[y]/\(y= .aN\/∃ cl:List Cm,y= .sl cl.length (cl.flatMap Cm.ds)/\cl.length<=9223372036854775807):=by
  rcases Dm (d:=d) f16 with e | ⟨cl,_,hn,e⟩
  .exact ⟨.aN,e,.inl rfl⟩
  .exact ⟨_,e,.inr ⟨cl,rfl,hn⟩⟩
 obtain ⟨x16,e16,w16⟩:=e16;refine ⟨⟨x0,x1,x2,x3,x4,x5,x6,x7,x8,x9,Np,Nq,Nr,Ns,x14,x15,x16⟩,⟨w0,w1,w2,w3,w4,w5,w6,w7,w8,w9,w10,w11,w12,w13,w14,w15,w16⟩,?_⟩;have g0:ds.drop 0=x0.ds++ds.drop 2:=nJ (n:=2) e0 rfl;have g1:ds.drop 2=x1.ds++ds.drop 10:=nJ (n:=8) e1 rfl;have g2:ds.drop 10=[.int .u64 x2]++ds.drop 11:=nJ (n:=1) e2 rfl;have g3:ds.drop 11=[.int .u32 x3]++ds.drop 12:=nJ (n:=1) e3 rfl;have g4:ds.drop 12=x4.ds++ds.drop 14:=nJ (n:=2) e4 rfl;have g5:ds.drop 14=[.int .u8 x5]++ds.drop 15:=nJ (n:=1) e5 rfl;have g6:ds.drop 15=x6.ds++ds.drop 17:=nJ (n:=2) e6 rfl;have g7:ds.drop 17=[.int .u32 x7]++ds.drop 18:=nJ (n:=1) e7 rfl;have g8:ds.drop 18=[.int .u8 x8]++ds.drop 19:=nJ (n:=1) e8 rfl;have g9:ds.drop 19=[.int .u8 x9]++ds.drop 20:=nJ (n:=1) e9 rfl;have g10:ds.drop 20=[.int .u64 Np]++ds.drop 21:=nJ (n:=1) e10 rfl;have g11:ds.drop 21=Nq.ds++ds.drop 23:=nJ (n:=2) Ow rfl;have g12:ds.drop 23=Nr.ds++ds.drop 25:=nJ (n:=2) e12 rfl;have g13:ds.drop 25=[.int .u32 Ns]++ds.drop 26:=nJ (n:=1) e13 rfl;have g14:ds.drop 26=[.int .u32 x14]++ds.drop 27:=nJ (n:=1) e14 rfl;have g15:ds.drop 27=[.int .u32 x15]++ds.drop 28:=nJ (n:=1) e15 rfl;have g16:ds.drop 28=[x16]++ds.drop 29:=nJ (n:=1) e16 rfl;have g:ds.drop 29=[]:=List.drop_of_length_le (by omega);have g':ds=ds.drop 0:=rfl;rw [g',g0,g1,g2,g3,g4,g5,g6,g7,g8,g9,g10,g11,g12,g13,g14,g15,g16,g];rfl
set_option maxRecDepth 100000 in
theorem Jr {d:Nat}{ds:List DV}(h:Fit Tryz.prog (d+6) kX ds):ds=[.aN]\/∃ l:List ag,(∀ x∈l,L1 x)/\l.length<=9223372036854775807/\ds=[.sl l.length (l.flatMap ag.ds)]:=
 v7 ag.ds L1 (P:= Tryz.prog) (t:=kX) (e:=cQ) Tryz.underlying22 (λ _ h=>LM h) h
theorem Js (x:DV):qK Tryz.prog kX [x]= .d x:=by rw [Dk (by kernel_rfl)];rfl
theorem L1.nz {q:ag}(h:L1 q):L1 q.nz/\q.nz.nT:=by
 have hl:q.nz.nT/\(q.nz.lines= .aN\/∃ cl:List Cm,q.nz.lines= .sl cl.length (cl.flatMap Cm.ds)/\cl.length<=9223372036854775807):=by
  rcases h.lines with e | ⟨cl,e,lE⟩
  .have e':q.nz.lines= .sl ([]:List Cm).length (([]:List Cm).flatMap Cm.ds):=by show Go.Sl.nz q.lines=_;rw [e];rfl
   exact ⟨(ag.nT.of e' (by simp)).1,.inr ⟨[],e',by simp⟩⟩
  .have e':q.nz.lines= .sl cl.length (cl.flatMap Cm.ds):=by show Go.Sl.nz q.lines=_;rw [e];rfl
   exact ⟨(ag.nT.of e' lE).1,.inr ⟨cl,e',lE⟩⟩
 exact ⟨⟨h.dot,h.dep,h.time,h.who,h.aH,h.kind,h.aK,h.to,h.aT,h.depth,h.cap,h.at_,h.jR,h.item,h.Kw,h.yC,hl.2⟩,hl.1⟩
theorem own:ownKnob Tryz.prog.godebug=none:=by kernel_rfl
theorem AX (M:Mem):pX M:=λ g cs hg=>by simp [Dy,xX] at hg
end Go.Proofs.YtaelhkkjgfobhaaGreat
