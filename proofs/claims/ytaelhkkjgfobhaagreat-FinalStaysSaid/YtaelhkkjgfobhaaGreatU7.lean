/-
 Final: whose verdicts are final.
-/
import Derived.Test.YtaelhkkjgfobhaaGreatUY
set_option linter.unusedSectionVars false
set_option linter.unusedVariables false
set_option linter.unusedSimpArgs false
namespace Go.Proofs.YtaelhkkjgfobhaaGreat
open Go.Sl Go.Proofs
section
attribute [local irreducible] SW RW aJ SC ai an iN yU
noncomputable def bX (l:List ag)(d:Dt):List Dt:=if dY l d then (ko l).filter (yK l d) else []
noncomputable def yO (l:List ag)(st:aD)(d:Dt):Bool:=fq (j0 st) (bX l) 10 d
abbrev kR (l:List ag):List Dt:=Dt.set (l.map (·.dot))
section
variable {l:List ag} {S:Sh} (h:bS l S)
include h
theorem bS.uw:h.X.bL=bX l:=by
 funext d
 unfold Ix.bL bX;rw [h.Gu,h.vC];cases hg:dY l d with
 | false=>rfl
 | true=>
  have hg':S.good d=true:=by rw [h.vC];exact hg
  simp only [if_true];exact h.OB hg'
theorem bS.lvl (d t:Dt)(ht:t∈h.X.bL d):h.X.kI t<h.X.kI d:=by
 unfold Ix.bL at ht;rw [h.Gu] at ht;cases hg:S.good d with
 | false=>rw [hg] at ht;cases ht
 | true=>
  rw [hg,if_pos rfl,Dt.mem_set,h.Ox hg,h.Nt hg] at ht;obtain ⟨h1,_,_,_,h5,_,_⟩:=h.hit hg ht;unfold Ix.kI;rw [h.Dr h1,h.Dr hg];exact h5
theorem bS.Aj (d:Dt):h.X.kI d<10:=by
 cases hg:S.good d with
 | true=>
  unfold Ix.kI;rw [h.Dr hg];have:=h.Cq (S.op d);omega
 | false=>unfold Ix.kI;rw [h.J3 hg];decide
theorem bS.GU (hl:l.length<=80)(d:Dt):(h.X.bL d).length<1000000000:=by
 unfold Ix.bL
 split
 .exact h.rQ hl _
 .decide
end
theorem KM.tT (fin:Dt->Bool):(KM.mk [] 0).ok fin:=λ d=> .inl rfl
theorem Lz (S:Sh)(X:Ix)(st:aD)(K K':KM)(q:Nat->Bool)(h:(AA S X st K).ok q=true):(AA S X st K').ok q=true:=by
 simp only [Hp.ok,List.all_cons,Ob.ok,fC] at h ⊢;exact h
theorem O8 {l:List ag}{S:Sh}(h:bS l S)(hl:l.length<=80)(st:aD):Lw Tryz.prog final_asker_final.f [.ptr 18 0] [] (AA S h.X st) (rT (j0 st) h.X.bL 10) (fq (j0 st) h.X.bL 10) 0 (KM.ok (fq (j0 st) h.X.bL 10)) where
 nd K:=by simp
 nm K K':=rfl
 step K d hK:=(yM h.lvl h.Aj 10 K d (h.Aj d) hK).1
 ok K d q hq:=Lz S _ st K _ q hq
 call K d k hK _:=by
  have:=SB.nM OF (GK S h.X (h.small hl) st h.X.kI h.lvl 10 h.Aj (h.GU hl) 10 d K (h.Aj d) hK) (by decide) (λ i hi=>J9 S h.X st K i hi) k;rw [Ct,Ct] at this
  simpa [SV.aQ,SV.aA,ff,Dt.ax] using this
 a1 K q hq:=by
  simp only [Hp.ok,List.all_cons,Bool.and_eq_true] at hq;exact ⟨by simp [SV.ay,SV.ok,hq.1.1],rfl⟩
 cl K:=yN S _ st K _ λ n hn=>by
  simp only [List.mem_cons,List.not_mem_nil,or_false] at hn;rcases hn with rfl | rfl | rfl | rfl | rfl | rfl | rfl | rfl | rfl | rfl | rfl | rfl | rfl <;> rfl
abbrev LA (S:Sh):Hp:=[(12,.box 117 [.ptr 4 0,.mp 9,.mp 10,.mp 11]),(9,.map (ah Dt.cells ov S.ops) S.co),(10,.map (ah Dt.cells iv S.gj) S.ca),(11,.map (ah Dt.cells dv S.mI) S.cl),(4,.box 166 [.mp 2,.mp 3]),(2,.map (ah Dt.cells cv S.tr) S.ct),(3,.map (ah Dt.cells ov S.md) S.cm)]
theorem Je (S:Sh)(X:Ix)(st:aD)(K:KM):HSub (LA S) (AA S X st K):=by
 refine HSub.cons ?_ (HSub.cons ?_ (HSub.cons ?_ (HSub.cons ?_ (HSub.cons ?_ (HSub.cons ?_ (HSub.cons ?_ (HSub.nil _))))))) <;> rfl
theorem Jf (S:Sh)(X:Ix)(st:aD)(K:KM)(o:Ob):bR false (AA S X st K) (LA S) ((21,o)::LA S)=(21,o)::AA S X st K:=by
 simp only [bR,cg,cq,gh,gf,cE,lk,List.lookup,Nat.reduceBEq,BEq.rfl,beq_self_eq_true,if_true,if_false,reduceIte,Nat.reduceEqDiff,Bool.false_eq_true,Option.isSome_some,Option.isSome_none]
theorem Jg {l:List ag}{S:Sh}(h:bS l S)(hl:l.length<=80)(st:aD)(K:KM):aJ Tryz.prog shape_Shape_Dots.f [.ptr 12 0] (AA S h.X st K) 20 2 (.gs 21 (kR l).length) ((21,l9 (kR l) 21)::AA S h.X st K):=by
 have h1:=SB.nM [12,9,10,11,4,2,3] (Dy S h.base.ops.wf (by have:=h.ja;omega)) (by decide) (λ i hi=>S.Fj i hi) 20;rw [h.Ce] at h1;show aJ _ _ _ _ _ _ (.gs 21 (Dt.set (l.map (·.dot))).length) ((21,l9 (Dt.set (l.map (·.dot))) 21)::_);generalize Dt.set (l.map (·.dot))=D at h1 ⊢;have e1:S.h0.aA (ff [12,9,10,11,4,2,3] 20)=LA S:=by simp [Hp.aA,Ob.aA,SV.aQ,SV.aA,ff,bA,cM,fG,dV]
 have e2:Hp.aA (ff [12,9,10,11,4,2,3] 20) ((8,l9 D 8)::S.h0)=(21,l9 D 21)::LA S:=by
  rw [<- e1];simp [Hp.aA,Ob.aA,ff,SV.eE]
 rw [e1,e2] at h1;have h2:aJ Tryz.prog shape_Shape_Dots.f [.ptr 12 0] (LA S) 20 2 (.gs 21 D.length) ((21,l9 D 21)::LA S):=h1;unfold aJ at h2 ⊢;have h3:=SC.frame h2 (Je S h.X st K);refine SC.mono h3 λ r F hh=> ?_
 obtain ⟨F1,⟨h4,h5⟩,h6⟩:=hh;rw [h5,Jf] at h6;exact ⟨h4,h6⟩
theorem GV {l:List ag}{S:Sh}(h:bS l S)(hl:l.length<=80)(st:aD):SC Tryz.prog final_asker_some.f [.ptr 18 0,.fn (.func final_asker_final.f) [.ptr 18 0] []] (AA S h.X st ⟨[],0⟩) 19 (3+((kR l).length*(1+0)+(kR l).length*(1+0+1))) λ r F=>∃ K',r= .gs 21 ((kR l).filter (yO l st)).length/\F=(21,l9 ((kR l).filter (yO l st)) 21)::AA S h.X st K':=by
 have hds:(kR l).length<=80:=h.j6 hl;have mO:=(O8 h hl st).cl ⟨[],0⟩;have:=(Jc (O8 h hl st) ⟨[],0⟩ (KM.tT _) 18 12 16 17 st (kR l) (by omega) 19 (yN S _ st _ _ (by decide)) rfl (Jg h hl st _) (λ K n hn=>gq (by simp;omega))).here (λ n=>(lk (AA S h.X st ⟨[],0⟩) n).isSome) (λ n hn e=>by rw [e] at hn;cases hn) (by simp [SV.ay,SV.ok,aa]) mO (by
  rintro r F ⟨K',_,rfl,rfl⟩ _ _;refine ⟨by simp [SV.ok];right;omega,ak (by simp;right;omega) (SV.bg _) (yN S _ st _ _ λ n hn=> ?_)⟩;rw [Bool.or_eq_true];left;simp only [List.mem_cons,List.not_mem_nil,or_false] at hn;rcases hn with rfl | rfl | rfl | rfl | rfl | rfl | rfl | rfl | rfl | rfl | rfl | rfl | rfl <;> rfl)
 refine SC.mono this ?_;rintro r F ⟨K',_,rfl,rfl⟩;have e:fq (j0 st) h.X.bL 10=yO l st:=by rw [h.uw];rfl
 rw [e];exact ⟨K',rfl,rfl⟩
end
section
attribute [local irreducible] SW RW aJ SC ai an iN yU
abbrev O9 (S:Sh):Hp:=[(13,.box 117 [.ptr 5 0,.mp 10,.mp 11,.mp 12]),(10,.map (ah Dt.cells ov S.ops) S.co),(11,.map (ah Dt.cells iv S.gj) S.ca),(12,.map (ah Dt.cells dv S.mI) S.cl),(5,.box 166 [.mp 3,.mp 4]),(3,.map (ah Dt.cells cv S.tr) S.ct),(4,.map (ah Dt.cells ov S.md) S.cm)]
abbrev PA:Sn:=⟨13,10,11,12,5,3,4⟩
theorem OI {l:List ag}{S:Sh}(h:bS l S)(hs:lZ S)(d:Dt)(k:Nat):aJ Tryz.prog shape_Shape_Op.f [.ptr 13 0,.agg d.cells] (O9 S) k 0 (.eu [.agg (S.op d).cells,bl (MM.has S.ops d)]) (O9 S):=
 S.at_ (A2 S hs d) (λ ρ=>by simp [SV.aQ,SV.aA,Dt.ax]) (λ ρ=>by simp [SV.aQ,SV.aA,ag.ax]) PA (by unfold Sn.ok Sn.nl;decide) k
abbrev OJ (S:Sh)(X:Ix)(st:aD)(K:KM)(M:IM):Hp:=(21,.map (ah Dt.cells iv M.m) M.c)::OH S X st K
theorem Jh {l:List ag}{S:Sh}(h:bS l S)(hl:l.length<=80)(st:aD)(K:KM)(d:Dt)(k:Nat):aJ Tryz.prog final_asker_waits.f [.ptr 19 0,.agg d.cells,.mp 21] (OJ S h.X st K ⟨[],0⟩) k 0 (.eu []) (OJ S h.X st K (qH h.X.bL 10 ⟨[],0⟩ d)):=by
 have:=SB.nM (O7++[21]) (GP S h.X (h.small hl) st K h.X.kI h.lvl (h.GU hl) 10 d ⟨[],0⟩ (h.Aj d)) (by decide) (λ i hi=>J' S h.X st K _ i (by simpa using hi)) k;have e:∀ M:IM,(wH S h.X st K M).aA (ff (O7++[21]) k)=OJ S h.X st K M:=λ M=>by
  simp [Hp.aA,Ob.aA,SV.aQ,SV.aA,ff,qb,iF,bA,dA,cM,fG,dV]
 rw [e,e] at this
 simpa [SV.aQ,SV.aA,ff,Dt.ax] using this
noncomputable def dm (l:List ag)(st:aD)(d:Dt):List Dt:= @List.filter _ (λ e=> @decide (Reach (bX l) d e) (Classical.propDecidable _) && !st.aF e) (kR l)
theorem nq {l:List ag}{st:aD}{d e:Dt}:e∈dm l st d↔e∈kR l/\Reach (bX l) d e/\st.aF e=false:=by
 unfold dm;rw [List.mem_filter];simp
theorem Cv {l:List ag}{d:Dt}:d∈kR l↔(aW l d).isSome=true:=by
 rw [Dt.mem_set,List.mem_map,nQ]
theorem rU {l:List ag}{d:Dt}(h:dY l d=true):d∈kR l:=by
 rw [Cv];unfold dY at h;cases hf:aW l d with
 | none=>rw [hf] at h;cases h
 | some o=>rfl
theorem nY {l:List ag}{d t:Dt}(h:t∈bX l d):dY l t=true:=by
 unfold bX at h
 split at h
 .exact jK.1 (List.mem_filter.1 h).1
 .cases h
theorem rV {l:List ag}{d e:Dt}(hd:d∈kR l)(h:Reach (bX l) d e):e∈kR l:=by
 induction h with
 | refl=>exact hd
 | step ht _ ih=>exact ih (rU (nY ht))
theorem xM {l:List ag}{st:aD}{d:Dt}(hd:d∈kR l){R:List Dt}(hR:∀ e,e∈R↔Reach (bX l) d e/\st.aF e=false):Dt.set R=dm l st d:=
 Dt.fZ (Dt.fJ _) ((Dt.fJ _).filter _) λ v=>by
  rw [Dt.mem_set,hR];show _↔v∈dm l st d;rw [nq];exact ⟨λ h=>⟨rV hd h.1,h⟩,λ h=>h.2⟩
noncomputable def lI (l:List ag)(st:aD)(d:Dt):SV:=if (aW l d).isSome then .eu [bq (dm l st d),i64 0] else .eu [.d .aN,i64 7]
def qJ (st:aD)(xs:MM Dt Int):List Dt:=(xs.map (·.2.1)).filter λ e=> !st.aF e
theorem DB (st:aD)(xs:MM Dt Int)(x:Nat×Dt×Int):qJ st (xs++[x])=if st.aF x.2.1 then qJ st xs else qJ st xs++[x.2.1]:=by
 unfold qJ;rw [List.map_append,List.filter_append];cases h:st.aF x.2.1 <;> simp [h]
theorem DC {M xs:MM Dt Int}{c:Nat}(hwf:MM.wf M c)(p1:∀ x,x∈xs->x∈M)(hall:∀ e,e∈ah Dt.cells iv M->(xs.map (·.1)).contains e.1=true):∀ x,x∈xs↔x∈M:=λ x=>⟨p1 x,λ hx=>by
 have:=hall _ (List.mem_map.2 ⟨x,hx,rfl⟩);simp only [List.contains_iff_mem] at this;obtain ⟨z,hz,e⟩:=List.mem_map.1 this;rw [<- MM.ry hwf.times (p1 z hz) hx e];exact hz⟩
theorem Bm {M xs:MM Dt Int}(p1:∀ x,x∈xs->x∈M)(p2:(xs.map (·.1)).Nodup){x:Nat×Dt×Int}(hx:x∈M)(hs:(xs.map (·.1)).contains x.1=false):(∀ z,z∈xs++[x]->z∈M)/\((xs++[x]).map (·.1)).Nodup/\x.1∉xs.map (·.1):=by
 have hxt:x.1∉xs.map (·.1):=λ h=>by
  have:(xs.map (·.1)).contains x.1=true:=by simpa only [List.contains_iff_mem] using h
  rw [this] at hs;cases hs
 refine ⟨λ z hz=> ?_,?_,hxt⟩
 .rcases List.mem_append.1 hz with hz | hz
  .exact p1 z hz
  .rw [List.mem_singleton.1 hz];exact hx
 .rw [List.map_append,List.nodup_append]
  refine ⟨p2,by simp,λ a ha b' hb'=> ?_⟩;simp only [List.map_cons,List.map_nil,List.mem_singleton] at hb';intro e;exact hxt (by rw [<- hb',<- e];exact ha)
structure WI (M:IM)(xs:MM Dt Int):Prop where
 sub:∀ x,x∈xs->x∈M.m
 nd:(xs.map (·.1)).Nodup
abbrev wL (st:aD)(M:IM)(seen:List Nat)(R:List Dt):Hp:=[(23,.iter (some 21) M.c seen M.c),(22,l9 R 22),(21,.map (ah Dt.cells iv M.m) M.c),(0,.box 39 st.cells)]
theorem Kc (st:aD)(M:IM)(seen:List Nat)(R:List Dt):(wL st M seen R).ok (λ n=>decide (n<24))=true:=
 ak (by decide) (Cp _ _ _ _ _ (by decide)) (ak (by decide) (SV.bg _) (ak (by decide) (bB _ _) (ak (by decide) (aD.aq _ _) rfl)))
set_option maxHeartbeats 8000000 in
theorem Bn (l:List ag)(hl:l.length<=80)(hd:l_ l)(st:aD)(d:Dt):Go.Sl.Pure Tryz.prog final_Waits.f [ops l,.agg st.cells,.agg d.cells] (lI l st d):=by
 refine final_Waits.enter (by first | rfl | simp [SV.ok,SV.ay]) (by first | rfl | simp [Hp.ok,Ob.ok,SV.ok,SV.ay,aD.aq]) (by simp) ?_;dsimp only [final_Waits.s,Co.M,Co.J,Co.F,Co.Z,Co.b8,Co.aB,Co.bW,Co.T,Co.K,Co.E,Co.P,Co.Q,Co.R,Co.x,Co.W,Co.O,Co.D,Co.A,Co.S];refine SW.seq (SW.g0 [0,1,2,4,5,6,7,8,10,11,12,13,27,34,36,42] Zm af ?_);refine SW.seq (SW.tP ?_);(repeat (first | refine aV.op af (h:= ?_) | refine aV.dQ af (h:= ?_) | refine aV.skip (h:= ?_)));refine aV.bC (Ly l hl hd st) (HSub.nil _) (h:= ?_);rintro _ _ ⟨S,h,rfl,rfl⟩;simp only [bR,cg,cq,gh,gf,cE,lk,List.lookup,Nat.reduceBEq,BEq.rfl,beq_self_eq_true,if_true,if_false,reduceIte,Nat.reduceEqDiff,Bool.false_eq_true,Option.isSome_some,Option.isSome_none,Nat.reduceAdd];(repeat (first | refine aV.op af (h:= ?_) | refine aV.dQ af (h:= ?_) | refine aV.skip (h:= ?_)));refine aV.nil ?_;have cO:=OI h (h.short hd) d;have hhas:MM.has S.ops d=(aW l d).isSome:=h.base.has d;rw [hhas] at cO;have b0:=Nw st 13 17 18;have bl0:(0+1<=(vF st 13 17 18).length)=True:=eq_true (by rw [GF];decide);refine SW.seq (SW.seq (SW.g1 [0,1,2,4,5,6,7,8,10,11,12,13,27,34,36,42] Zm (Zq b0 bl0) cO ?_));refine SW.seq ?_;cases hf:(aW l d).isSome with
 | false=>
  have e:lI l st d= .eu [.d .aN,i64 7]:=by unfold lI;rw [hf];rfl
  rw [e];refine SW.g0 [0,1,2,4,5,6,7,8,10,11,12,13,27,34,36,42] Zm af ?_;refine SW.aj rfl (SW.seq (SW.g0 [0,1,2,4,5,6,7,8,10,11,12,13,27,34,36,42] Zm af ?_));refine SW.ret ?_;exact End.mk [] (h4:=⟨rfl,rfl⟩)
 | true=>
  have e:lI l st d= .eu [bq (dm l st d),i64 0]:=by unfold lI;rw [hf];rfl
  rw [e];refine SW.g0 [0,1,2,4,5,6,7,8,10,11,12,13,27,34,36,42] Zm af ?_;refine SW.au rfl (SW.skip (SW.seq (SW.g0 [0,1,2,4,5,6,7,8,10,11,12,13,27,34,36,42] Zm af ?_)));refine SW.seq ?_;have cW:=Jh h hl st ⟨[],0⟩ d;have hMr:∀ e,(qH h.X.bL 10 ⟨[],0⟩ d).get e>0↔Reach (bX l) d e:=λ e=>by
   rw [Dz h.lvl (h.Aj d),h.uw]
  have hMg:=Ah (dh:=h.X.bL) 10 ⟨[],0⟩ d IM.NA;generalize qH h.X.bL 10 ⟨[],0⟩ d=M at cW hMr hMg;have hdd:d∈kR l:=Cv.2 hf;have hMl:M.m.length<=80:=by
   have h1:=hMg.1.keys.length_le_of_subset (l₂:=kR l) λ e he=>by
    rw [<- MM.ia,hMg.has,hMr] at he;exact rV hdd he
   have h2:=h.j6 hl;have h3:(MM.keys M.m).length=M.m.length:=by simp [MM.keys]
   have h4:(kR l).length<=80:=h2;omega
  refine SW.g1 [0,1,2,4,5,6,7,8,10,11,12,13,27,34,36,42] Zm af cW ?_;refine SW.seq (SW.g0 [0,1,2,4,5,6,7,8,10,11,12,13,27,34,36,42] Zm af ?_);refine SW.oD 12 37 2 rfl ?_;refine SW.seq (SW.seq (SW.g0 [0,1,2,4,5,6,7,8,10,11,12,13,27,34,36,42] Zm af ?_));refine SW.block ?_
  refine SW.pR (es:=λ _=>ah Dt.cells iv M.m) (c:=λ _=>M.c) (ud:=λ _=>23) (nm:=λ _=>21) (since:=λ _=>M.c) (AN:=λ _=>M.c)
   (α:={xs:MM Dt Int // WI M xs})
   (λ p=>⟨[(34,.it 23),(12,.gs 22 (qJ st p.1).length),(4,.ptr 0 0)],wL st M (p.1.map (·.1)) (qJ st p.1),24⟩)
   (λ p=>gw (ah Dt.cells iv M.m) (p.1.map (·.1))) ⟨[],by simp,by simp⟩ id (seen:=λ p=>p.1.map (·.1)) ?_ (λ p=>by simp [List.lookup]) (λ p=>by simp [aa]) (λ p=>by simp [aa]) (λ p=>by decide) (λ p e' he=> ?_) (λ p=>Nat.le_refl _) (λ p hall=> ?_) (λ p e' he hs=> ?_)
  .refine aI.same (Nat.zero_le _) (by simp [aL,List.lookup,SV.aA,SV.ok,SV.ay,qJ]) (Kc st M _ _) (λ y hy=> ?_)
   simp only [List.mem_cons,List.not_mem_nil,or_false] at hy;rcases hy with rfl | rfl | rfl | rfl <;> rfl
  .obtain ⟨x,hx,rfl⟩:=eV he
   exact hMg.1.old x hx
  .obtain ⟨xs,p⟩:=p
   dsimp only at*;have hxs:=DC hMg.1 p.sub hall;have hR:∀ e,e∈qJ st xs↔Reach (bX l) d e/\st.aF e=false:=λ e=>by
    unfold qJ;rw [List.mem_filter,<- hMr,<- hMg.has,MM.ia];unfold MM.keys;simp only [List.mem_map,hxs,Bool.not_eq_true']
   have hRl:(qJ st xs).length<=80:=by
    have h1:=List.length_filter_le (λ e=> !st.aF e) (xs.map (·.2.1));have h2:=p.nd.length_le_of_subset (l₂:=M.m.map (·.1)) λ n hn=>by
     obtain ⟨z,hz,rfl⟩:=List.mem_map.1 hn;exact List.mem_map.2 ⟨z,p.sub z hz,rfl⟩
    simp only [List.length_map] at h1 h2;unfold qJ;omega
   have hset20:=xM hdd hR;rw [<- hset20];generalize qJ st xs=R at hRl ⊢;refine ⟨⟨[(12,.gs 22 R.length)],[(22,l9 R 22)],24⟩,id,aI.same (Nat.zero_le _) (by simp [aL,List.lookup,SV.aA,SV.ok,SV.ay]) (ak (by simp) (SV.bg _) rfl) (λ y hy=>by
    rw [List.mem_singleton] at hy;subst hy;rfl),?_⟩
   rw [if_pos rfl];refine SW.freeze 22 (R.flatMap Dt.ds) rfl rfl ?_;simp only [k_,SV.iB,List.map_cons,List.map_nil,if_true,if_false,reduceIte,cE,Nat.reduceEqDiff];have cS:=um R (by omega);refine SW.seq (SW.g1 [0,1,2,4,5,6,7,8,10,11,12,13,27,34,36,42] Zm af cS ?_);refine SW.ret ?_;exact End.mk [] (h4:=⟨rfl,rfl⟩)
  .obtain ⟨xs,p⟩:=p
   dsimp only at*;obtain ⟨x,hx,rfl⟩:=eV he;dsimp only at hs;have g5:(xs.map (·.1)++[x.1]).getLast? =some x.1:=by simp
   have g6:=kM (kc:=Dt.cells) (vs:=iv) hMg.1.times hx;obtain ⟨q1,q2,_⟩:=Bm p.sub p.nd hx hs;have em:(xs++[x]).map (·.1)=xs.map (·.1)++[x.1]:=by simp
   have hm:=kO he hs;have hsn:=DB st xs x;have hRl:(qJ st xs).length<=80:=by
    have h1:=List.length_filter_le (λ e=> !st.aF e) (xs.map (·.2.1));have h2:=p.nd.length_le_of_subset (l₂:=M.m.map (·.1)) λ n hn=>by
     obtain ⟨z,hz,rfl⟩:=List.mem_map.1 hn;exact List.mem_map.2 ⟨z,p.sub z hz,rfl⟩
    simp only [List.length_map] at h1 h2;unfold qJ;omega
   obtain ⟨v,hv⟩:∃ v,x.2.1=v:=⟨_,rfl⟩;rw [hv] at hsn;have cC:=pS st v;rw [iS];refine SW.block (SW.seq (SW.g0 [0,1,2,4,5,6,7,8,10,11,12,13,27,34,36,42] Zm (Zq g5 (Zq g6 hv)) ?_));refine SW.seq ?_;cases hcv:st.aF v with
   | true=>
    rw [hcv] at cC hsn;refine SW.g1 [0,1,2,4,5,6,7,8,10,11,12,13,27,34,36,42] Zm af cC ?_;refine SW.au rfl (SW.skip ?_);refine ⟨⟨xs++[x],q1,q2⟩,id,by show gw _ ((xs++[x]).map (·.1))<_;rw [em];exact hm,?_⟩;dsimp only;rw [em,hsn,if_pos rfl];refine aI.same (Nat.zero_le _) (by simp [aL,List.lookup,SV.aA,SV.ok,SV.ay]) (Kc st M _ _) (λ y hy=> ?_);simp only [List.mem_cons,List.not_mem_nil,or_false] at hy;rcases hy with rfl | rfl | rfl | rfl <;> rfl
   | false=>
    rw [hcv] at cC hsn;refine SW.g1 [0,1,2,4,5,6,7,8,10,11,12,13,27,34,36,42] Zm af cC ?_;refine SW.aj rfl ?_;generalize qJ st xs=R at hRl hsn ⊢;refine SW.g0 [0,1,2,4,5,6,7,8,10,11,12,13,27,34,36,42] Zm af ?_;refine ⟨⟨xs++[x],q1,q2⟩,λ n=>if n=22 then 25 else n,by show gw _ ((xs++[x]).map (·.1))<_;rw [em];exact hm,?_⟩;dsimp only;rw [em,hsn,if_neg (by decide)];exact aI.mk (Zq (I5 R v) (Lo R v))
theorem vG (l:List ag)(hl:l.length<=80)(hd:l_ l)(st:aD)(d:Dt)(k:Nat):aJ Tryz.prog final_Waits.f [ops l,.agg st.cells,.agg d.cells] [] k 0 (lI l st d) []:=(Bn l hl hd st d).sc (by unfold lI;split <;> rfl) k
end
section
attribute [local irreducible] SW RW aJ SC ai an
end
section
attribute [local irreducible] SW RW aJ SC ai an iN yU
end
end Go.Proofs.YtaelhkkjgfobhaaGreat
namespace Go.Proofs.YtaelhkkjgfobhaaGreat
open Go.Sl Go.Proofs
section
attribute [local irreducible] SW RW aJ SC ai an iN yU
section
variable {l:List ag} {S:Sh} (h:bS l S) (hl:l.length<=80) (hs:lZ S) (st:aD)
end
end
section
attribute [local irreducible] SW RW aJ SC ai an iN yU
end
end Go.Proofs.YtaelhkkjgfobhaaGreat
namespace Go.Proofs.YtaelhkkjgfobhaaGreat
open Go.Sl Go.Proofs
section
attribute [local irreducible] SW RW aJ SC ai an
theorem vI {P:Program}{env:List (Nat×SV)}{hp:Hp}{k d p:Nat}{r:List SI}{K:St->List (Bool×List Nat)->Prop}{a:ag}{z:List SV}(hz:z=D2)
  (ha:env.lookup p=some (.agg a.cells))
  (h:RW P r ⟨(d,ops [a])::env,hp,k⟩ λ st' ts=>K st' ((false,[])::ts)):RW P (⟨some d,.qf 43 29 1 z [(0,29,.t p)],none⟩::r) ⟨env,hp,k⟩ K:=by
 subst hz;refine RW.cons (e:=⟨ops [a],[],[],0,((29=29/\0+29<=29/\True))⟩) (λ dG=>⟨.iB::dG,fm (.inl rfl) ?_⟩) (by show 29=29/\0+29<=29/\True;decide) ?_
 .have h1:vT (λ t=>env.lookup t) [(0,29,X.t p)]=some [(0,29,.agg a.cells)]:=by
   simp only [vT,ev,ha]
  have h2:mM D2 [(0,29,.agg a.cells)]=some (a.cells,((29=29/\0+29<=29/\True))):=rfl;have h3:fu a.cells=some ([a].flatMap ag.ds):=rfl;have h4:a.cells.all SV.dJ=true:=rfl;simp only [fM,dF,h1,h2,h3,h4,if_true,Bool.false_or];rfl
 .exact h
end
section
attribute [local irreducible] SW RW aJ SC ai an
def wj (R:List Dt)(t:Dt):List Dt:=if t∈R then R else R++[t]
theorem GW {R:List Dt}{t x:Dt}:x∈wj R t↔x∈R\/x=t:=by
 unfold wj
 split
 .rename_i h
  exact ⟨.inl,λ h2=>h2.elim id λ e=>e ▸ h⟩
 .simp
theorem Bo {R:List Dt}(h:R.Nodup)(t:Dt):(wj R t).Nodup:=by
 unfold wj
 split
 .exact h
 .rename_i hn
  rw [List.nodup_append];exact ⟨h,by simp,λ a ha b hb e=>hn (by rw [List.mem_singleton.1 hb] at e;exact e ▸ ha)⟩
theorem GX (R:List Dt)(t:Dt):∃ S,wj R t=R++S:=by
 unfold wj
 split
 .exact ⟨[],by simp⟩
 .exact ⟨[t],rfl⟩
def nZ (R T:List Dt):List Dt:=T.foldl wj R
theorem vJ {T:List Dt}:∀ {R:List Dt} {x:Dt},x∈nZ R T↔x∈R\/x∈T:=by
 induction T with
 | nil=>intro R x;simp [nZ]
 | cons t T ih=>
  intro R x;show x∈nZ (wj R t) T↔_;rw [ih,GW];simp [or_assoc]
theorem yP {T:List Dt}:∀ {R:List Dt},R.Nodup->(nZ R T).Nodup:=by
 induction T with
 | nil=>exact λ h=>h
 | cons t T ih=>exact λ h=>ih (Bo h t)
theorem Bp {T:List Dt}:∀ (R:List Dt),∃ S,nZ R T=R++S:=by
 induction T with
 | nil=>exact λ R=>⟨[],by simp [nZ]⟩
 | cons t T ih=>
  intro R;obtain ⟨S1,h1⟩:=GX R t;obtain ⟨S2,h2⟩:=ih (wj R t);exact ⟨S1++S2,by show nZ (wj R t) T=_;rw [h2,h1,List.append_assoc]⟩
noncomputable def nA (l:List ag)(d:Dt):Nat->List Dt
 | 0=>[d]
 | i+1=>match (nA l d i)[i]? with
  | some x=>nZ (nA l d i) (bX l x)
  | none=>nA l d i
noncomputable def qp (l:List ag)(d:Dt):List Dt:=nA l d 81
theorem lJ {l:List ag}{d:Dt}{i:Nat}{x:Dt}(h:(nA l d i)[i]? =some x):nA l d (i+1)=nZ (nA l d i) (bX l x):=by
 simp only [nA,h]
theorem oM {l:List ag}{d:Dt}{i:Nat}(h:(nA l d i)[i]? =none):nA l d (i+1)=nA l d i:=by
 simp only [nA,h]
theorem Cw (l:List ag)(d:Dt)(i:Nat):∃ S,nA l d (i+1)=nA l d i++S:=by
 cases h:(nA l d i)[i]? with
 | some x=>rw [lJ h];exact Bp _
 | none=>rw [oM h];exact ⟨[],by simp⟩
theorem tc (l:List ag)(d:Dt):∀ i,(nA l d i).Nodup
 | 0=>by simp [nA]
 | i+1=>by
  cases h:(nA l d i)[i]? with
  | some x=>rw [lJ h];exact yP (tc l d i)
  | none=>rw [oM h];exact tc l d i
theorem nt (l:List ag)(d:Dt):∀ i x,x∈nA l d i->Reach (bX l) d x
 | 0,x,hx=>by
  rw [show x=d by simpa [nA] using hx];exact .refl _
 | i +1,x,hx=>by
  cases h:(nA l d i)[i]? with
  | some y=>
   rw [lJ h,vJ] at hx;rcases hx with hx | hx
   .exact nt l d i x hx
   .exact (nt l d i y (List.mem_of_getElem? h)).trans (.step hx (.refl _))
  | none=>rw [oM h] at hx;exact nt l d i x hx
theorem DD {l:List ag}{d e:Dt}(h:Reach (bX l) d e):e=d\/e∈kR l:=by
 cases h with
 | refl=>exact .inl rfl
 | step ht h=>exact .inr (rV (rU (nY ht)) h)
theorem Ji (l:List ag):(kR l).length<=l.length:=by
 have:=Dt.yJ (l.map (·.dot))
 rwa [List.length_map] at this
theorem DE {l:List ag}{d:Dt}{R:List Dt}(hn:R.Nodup)(h:∀ x,x∈R->Reach (bX l) d x):R.length<=l.length+1:=by
 have h1:=hn.length_le_of_subset (l₂:=d::kR l) λ x hx=>by
  rcases DD (h x hx) with e | e
  .rw [e];exact List.mem_cons_self ..
  .exact List.mem_cons_of_mem _ e
 have h2:=Ji l;simp only [List.length_cons] at h1;omega
theorem Cx (l:List ag)(d:Dt)(i:Nat):(nA l d i).length<=l.length+1:=DE (tc l d i) (nt l d i)
theorem Ak {l:List ag}{d:Dt}{i:Nat}(h:(nA l d i).length<=i):∀ k,nA l d (i+k)=nA l d i
 | 0=>rfl
 | k+1=>by
  have ih:=Ak h k;rw [show i+(k+1)=i+k+1 by omega,oM (by rw [ih];exact List.getElem?_eq_none (by omega)),ih]
theorem Al {l:List ag}{d:Dt}{i:Nat}(hl:l.length<=80)(h:(nA l d i).length=i):nA l d i=qp l d:=by
 have h1:=Cx l d i;have:=Ak (l:=l) (d:=d) (i:=i) (by omega) (81 - i);rw [show i+(81 - i)=81 by omega] at this;exact this.symm
theorem Cy (l:List ag)(d:Dt):∀ i j x,j<i->(nA l d i)[j]? =some x->∀ t,t∈bX l x->t∈nA l d i
 | 0,j,x,hj,_,_,_=>by omega
 | i + 1,j,x,hj,hx,t,ht=>by
  obtain ⟨S,hS⟩:=Cw l d i
  by_cases hlt:j<(nA l d i).length
  .have hx':(nA l d i)[j]? =some x:=by rw [hS,List.getElem?_append_left hlt] at hx;exact hx
   by_cases e:j=i
   .rw [e] at hx'
    rw [lJ hx',vJ];exact .inr ht
   .rw [hS]
    exact List.mem_append_left _ (Cy l d i j x (by omega) hx' t ht)
  .have hn:(nA l d i)[i]? =none:=List.getElem?_eq_none (by omega)
   rw [oM hn,List.getElem?_eq_none (by omega)] at hx;cases hx
theorem DF {l:List ag}{d:Dt}(hl:l.length<=80){e:Dt}:e∈qp l d↔Reach (bX l) d e:=by
 refine ⟨nt l d 81 e,λ h=> ?_⟩;have key:∀ {a b:Dt},Reach (bX l) a b->a∈qp l d->b∈qp l d:=λ h=>by
  induction h with
  | refl=>exact id
  | step ht _ ih=>
   intro ha;obtain ⟨j,hj⟩:=List.getElem?_of_mem ha;have h1:j<(qp l d).length:=(List.getElem?_eq_some_iff.1 hj).1;have h2:(qp l d).length<=l.length+1:=Cx l d 81;exact ih (Cy l d 81 j _ (by omega) hj _ ht)
 refine key h ?_;have:∀ i,d∈nA l d i:=λ i=>by
  induction i with
  | zero=>simp [nA]
  | succ i ih=>obtain ⟨S,hS⟩:=Cw l d i;rw [hS];exact List.mem_append_left _ ih
 exact this 81
section
variable {l:List ag} (hl:l.length<=80) (hd:∀ x,x∈l->x.bp<256/\x.mW/\x.dot.wf)
include hl hd
end
end
section
attribute [local irreducible] SW RW aJ SC ai an
theorem DG {l:List ag}(hl:l.length<=80){st:aD}{d:Dt}(hd:d∈kR l):Dt.set ((qp l d).filter λ e=> !st.aF e)=dm l st d:=
 xM hd λ e=>by rw [List.mem_filter,DF hl];simp
theorem DH {l:List ag}{S:Sh}(h:bS l S){st:aD}{d:Dt}(hd:d∈kR l):yO l st d=decide (dm l st d=[]):=by
 have h1:=qI (dh:=bX l) (lv:=h.X.kI) (λ a t ht=>h.lvl a t (by rw [h.uw];exact ht)) (rS:=j0 st) 10 d (h.Aj d);have h2:yO l st d=true↔dm l st d=[]:=by
  unfold yO;rw [h1];constructor
  .intro h3
   rw [List.eq_nil_iff_forall_not_mem];intro e he;obtain ⟨_,h4,h5⟩:=nq.1 he;have:=h3 e h4;have h6:st.aF e=true:=this;rw [h6] at h5;cases h5
  .intro h3 e he
   show st.aF e=true;cases hc:st.aF e with
   | true=>rfl
   | false=>
    have:e∈dm l st d:=nq.2 ⟨rV hd he,he,hc⟩;rw [h3] at this;cases this
 cases hf:yO l st d with
 | true=>rw [decide_eq_true (h2.1 hf)]
 | false=>
  have: ¬ dm l st d=[]:=λ e=>by rw [h2.2 e] at hf;cases hf
  rw [decide_eq_false this]
section
variable {l:List ag} (hl:l.length<=80) (hd:∀ x,x∈l->x.bp<256/\x.mW/\x.dot.wf)
include hl hd
end
theorem Jj {l:List ag}{S:Sh}(h:bS l S)(st:aD):((kR l).filter λ d=>decide (dm l st d=[]))=(kR l).filter (yO l st):=
 List.filter_congr λ d hd=>(DH h hd).symm
end
section
attribute [local irreducible] SW RW aJ SC ai an
section
variable {l:List ag} (hl:l.length<=80) (hd:∀ x,x∈l->x.bp<256/\x.mW/\x.dot.wf)
include hl hd
end
end
end Go.Proofs.YtaelhkkjgfobhaaGreat
namespace Go.Proofs.YtaelhkkjgfobhaaGreat
open Go.Sl Go.Proofs
section
def ji (a b:Nat):aD:=⟨a,b,0,0,0,0,0,0⟩
theorem O_:tS bH ⟨0,1⟩=p1:=bG (by kernel_rfl)
theorem Pa:tS bH ⟨0,2⟩=p2:=bG (by kernel_rfl)
theorem Pb:tS bH ⟨0,3⟩=p3:=bG (by kernel_rfl)
theorem Pc:tS bH ⟨0,4⟩=p4:=bG (by kernel_rfl)
theorem Pd:tS bH ⟨1,1⟩=p5:=bG (by kernel_rfl)
theorem oN {l:List ag}{d:Dt}{o:ag}(h:aW l d=some o)(hw:kf l o=0):dY l d=true:=by
 unfold dY;rw [h];simp [hw]
theorem Pe:dY bH ⟨0,1⟩=true:=oN (o:=p1) (by kernel_rfl) Nn
theorem Pf:dY bH ⟨0,2⟩=true:=oN (o:=p2) (by kernel_rfl) No
theorem Pg:dY bH ⟨0,3⟩=true:=oN (o:=p3) (by kernel_rfl) Np
theorem Ph:dY bH ⟨0,4⟩=true:=oN (o:=p4) (by kernel_rfl) Nq
theorem Pj:dY bH ⟨1,1⟩=true:=oN (o:=p5) (by kernel_rfl) Nr
theorem GY:ko bH=[⟨0,1⟩,⟨0,2⟩,⟨0,3⟩,⟨0,4⟩,⟨1,1⟩]:=by
 have e:Ac bH=bH.map (·.dot):=by
  unfold Ac;rw [List.filter_eq_self.2];intro o ho;simp only [bH,List.mem_cons,List.not_mem_nil,or_false] at ho;rcases ho with rfl | rfl | rfl | rfl | rfl
  .exact Pe
  .exact Pf
  .exact Pg
  .exact Ph
  .exact Pj
 unfold ko;rw [e];exact J4
theorem LC:jZ bH p1=[]:=by unfold jZ;rw [if_pos (by decide)]
theorem LD:jZ bH p2=[⟨0,1⟩]:=by unfold jZ;rw [if_neg (by decide)];exact congrArg (List.map (·.dot)) (ig J2)
theorem LF:jZ bH p3=[⟨0,2⟩,⟨0,1⟩]:=by unfold jZ;rw [if_neg (by decide)];exact congrArg (List.map (·.dot)) (ig Gr)
theorem LG:jZ bH p4=[⟨0,2⟩,⟨0,1⟩]:=by unfold jZ;rw [if_neg (by decide)];exact congrArg (List.map (·.dot)) (ig Gr)
theorem LH:jZ bH p5=[⟨0,1⟩]:=by unfold jZ;rw [if_neg (by decide)];exact congrArg (List.map (·.dot)) (ig J2)
theorem oO {d:Dt}{o:ag}{C:List Dt}(hg:dY bH d=true)(ho:tS bH d=o)(hc:jZ bH o=C):bX bH d=if decide ((⟨0,2⟩:Dt)∈C) && !o.before p5 then [⟨1,1⟩] else []:=by
 have k1:decide (p1.kind=2)=false:=rfl;have k2:decide (p2.kind=2)=false:=rfl;have k3:decide (p3.kind=2)=false:=rfl;have k4:decide (p4.kind=2)=false:=rfl;have k5:decide (p5.kind=2)=true:=rfl;have a5:p5.at_=⟨0,2⟩:=rfl;unfold bX;rw [if_pos hg,GY];simp only [List.filter_cons,List.filter_nil,yK,Bh,O_,Pa,Pb,Pc,Pd,ho,hc,k1,k2,k3,k4,k5,a5,Bool.false_and,Bool.true_and,if_false,Bool.false_eq_true]
theorem OK:bX bH ⟨0,1⟩=[]:=(oO Pe O_ LC).trans (by decide)
theorem OL:bX bH ⟨0,2⟩=[]:=(oO Pf Pa LD).trans (by decide)
theorem OM:bX bH ⟨0,3⟩=[]:=(oO Pg Pb LF).trans (by decide)
theorem PB:bX bH ⟨0,4⟩=[⟨1,1⟩]:=(oO Ph Pc LG).trans (by decide)
theorem NX:bX bH ⟨1,1⟩=[]:=(oO Pj Pd LH).trans (by decide)
theorem kg {l:List ag}(hl:l.length<=80){d:Dt}(h:bX l d=[]):qp l d=[d]:=by
 have e:nA l d 1=[d]:=by
  rw [lJ (show (nA l d 0)[0]? =some d from rfl),h];rfl
 rw [<- Al hl (i:=1) (by rw [e];rfl),e]
theorem yQ:qp bH ⟨0,4⟩=[⟨0,4⟩,⟨1,1⟩]:=by
 have e1:nA bH ⟨0,4⟩ 1=[⟨0,4⟩,⟨1,1⟩]:=by
  rw [lJ (show (nA bH ⟨0,4⟩ 0)[0]? =some ⟨0,4⟩ from rfl),PB];rfl
 have e2:nA bH ⟨0,4⟩ 2=[⟨0,4⟩,⟨1,1⟩]:=by
  rw [lJ (show (nA bH ⟨0,4⟩ 1)[1]? =some ⟨1,1⟩ by rw [e1];rfl),NX,e1];rfl
 rw [<- Al (by decide) (i:=2) (by rw [e2];rfl),e2]
theorem f_:kR bH=[⟨0,1⟩,⟨0,2⟩,⟨0,3⟩,⟨0,4⟩,⟨1,1⟩]:=J4
theorem kr {st:aD}{d:Dt}{N:List Dt}(hd:d∈kR bH)(hn:qp bH d=N):dm bH st d=Dt.set (N.filter λ e=> !st.aF e):=by
 rw [<- DG (by decide) hd,hn]
theorem set_nil:Dt.set []=[]:=(Dt.Cd _).symm.trans (by kernel_rfl)
theorem ux (d:Dt):Dt.set [d]=[d]:=by
 refine Dt.fZ (Dt.fJ _) (List.pairwise_singleton _ _) λ v=>by rw [Dt.mem_set]
theorem ON:((kR bH).filter λ d=>decide (dm bH (iD 4) d=[]))=[⟨0,1⟩,⟨0,2⟩,⟨0,3⟩]:=by
 have w1:dm bH (iD 4) ⟨0,1⟩=[]:=(kr (by rw [f_];decide) (kg (by decide) OK)).trans (by rw [show List.filter (λ e=> !(iD 4).aF e) [(⟨0,1⟩:Dt)]=[] by decide,set_nil]);have w2:dm bH (iD 4) ⟨0,2⟩=[]:=(kr (by rw [f_];decide) (kg (by decide) OL)).trans (by rw [show List.filter (λ e=> !(iD 4).aF e) [(⟨0,2⟩:Dt)]=[] by decide,set_nil]);have w3:dm bH (iD 4) ⟨0,3⟩=[]:=(kr (by rw [f_];decide) (kg (by decide) OM)).trans (by rw [show List.filter (λ e=> !(iD 4).aF e) [(⟨0,3⟩:Dt)]=[] by decide,set_nil]);have w4:dm bH (iD 4) ⟨0,4⟩=[⟨1,1⟩]:=(kr (by rw [f_];decide) yQ).trans (by rw [show List.filter (λ e=> !(iD 4).aF e) [(⟨0,4⟩:Dt),⟨1,1⟩]=[⟨1,1⟩] by decide,ux]);have w5:dm bH (iD 4) ⟨1,1⟩=[⟨1,1⟩]:=(kr (by rw [f_];decide) (kg (by decide) NX)).trans (by rw [show List.filter (λ e=> !(iD 4).aF e) [(⟨1,1⟩:Dt)]=[⟨1,1⟩] by decide,ux]);rw [f_];simp only [List.filter_cons,List.filter_nil,w1,w2,w3,w4,w5,decide_true,if_true];rfl
theorem NC:((kR bH).filter λ d=>decide (dm bH (ji 4 1) d=[]))=[⟨0,1⟩,⟨0,2⟩,⟨0,3⟩,⟨0,4⟩,⟨1,1⟩]:=by
 have w1:dm bH (ji 4 1) ⟨0,1⟩=[]:=(kr (by rw [f_];decide) (kg (by decide) OK)).trans (by rw [show List.filter (λ e=> !(ji 4 1).aF e) [(⟨0,1⟩:Dt)]=[] by decide,set_nil]);have w2:dm bH (ji 4 1) ⟨0,2⟩=[]:=(kr (by rw [f_];decide) (kg (by decide) OL)).trans (by rw [show List.filter (λ e=> !(ji 4 1).aF e) [(⟨0,2⟩:Dt)]=[] by decide,set_nil]);have w3:dm bH (ji 4 1) ⟨0,3⟩=[]:=(kr (by rw [f_];decide) (kg (by decide) OM)).trans (by rw [show List.filter (λ e=> !(ji 4 1).aF e) [(⟨0,3⟩:Dt)]=[] by decide,set_nil]);have w4:dm bH (ji 4 1) ⟨0,4⟩=[]:=(kr (by rw [f_];decide) yQ).trans (by rw [show List.filter (λ e=> !(ji 4 1).aF e) [(⟨0,4⟩:Dt),⟨1,1⟩]=[] by decide,set_nil]);have w5:dm bH (ji 4 1) ⟨1,1⟩=[]:=(kr (by rw [f_];decide) (kg (by decide) NX)).trans (by rw [show List.filter (λ e=> !(ji 4 1).aF e) [(⟨1,1⟩:Dt)]=[] by decide,set_nil]);rw [f_];simp only [List.filter_cons,List.filter_nil,w1,w2,w3,w4,w5,decide_true,if_true]
theorem ND:((kR bH).filter λ d=>decide (dm bH (ji 3 1) d=[]))=[⟨0,1⟩,⟨0,2⟩,⟨0,3⟩,⟨1,1⟩]:=by
 have w1:dm bH (ji 3 1) ⟨0,1⟩=[]:=(kr (by rw [f_];decide) (kg (by decide) OK)).trans (by rw [show List.filter (λ e=> !(ji 3 1).aF e) [(⟨0,1⟩:Dt)]=[] by decide,set_nil]);have w2:dm bH (ji 3 1) ⟨0,2⟩=[]:=(kr (by rw [f_];decide) (kg (by decide) OL)).trans (by rw [show List.filter (λ e=> !(ji 3 1).aF e) [(⟨0,2⟩:Dt)]=[] by decide,set_nil]);have w3:dm bH (ji 3 1) ⟨0,3⟩=[]:=(kr (by rw [f_];decide) (kg (by decide) OM)).trans (by rw [show List.filter (λ e=> !(ji 3 1).aF e) [(⟨0,3⟩:Dt)]=[] by decide,set_nil]);have w4:dm bH (ji 3 1) ⟨0,4⟩=[⟨0,4⟩]:=(kr (by rw [f_];decide) yQ).trans (by rw [show List.filter (λ e=> !(ji 3 1).aF e) [(⟨0,4⟩:Dt),⟨1,1⟩]=[⟨0,4⟩] by decide,ux]);have w5:dm bH (ji 3 1) ⟨1,1⟩=[]:=(kr (by rw [f_];decide) (kg (by decide) NX)).trans (by rw [show List.filter (λ e=> !(ji 3 1).aF e) [(⟨1,1⟩:Dt)]=[] by decide,set_nil]);rw [f_];simp only [List.filter_cons,List.filter_nil,w1,w2,w3,w4,w5,decide_true,if_true];rfl
theorem NF:lI bH (iD 4) ⟨0,4⟩= .eu [bq [⟨1,1⟩],i64 0]:=by
 have w4:dm bH (iD 4) ⟨0,4⟩=[⟨1,1⟩]:=(kr (by rw [f_];decide) yQ).trans (by rw [show List.filter (λ e=> !(iD 4).aF e) [(⟨0,4⟩:Dt),⟨1,1⟩]=[⟨1,1⟩] by decide,ux]);unfold lI;rw [if_pos (by kernel_rfl),w4]
theorem NG:lI bH (iD 4) ⟨0,5⟩= .eu [.d .aN,i64 7]:=by
 unfold lI;rw [if_neg (by rw [show (aW bH ⟨0,5⟩).isSome=false by kernel_rfl];decide)]
end
section
attribute [local irreducible] SW RW aJ SC ai an iN yU
set_option maxHeartbeats 4000000 in
theorem GZ (l:List ag)(hl:l.length<=80)(hd:l_ l)(st:aD):Go.Sl.Pure Tryz.prog final_Verdicts.f [ops l,.agg st.cells] (bq ((kR l).filter λ d=>decide (dm l st d=[]))):=by
 refine final_Verdicts.enter (by first | rfl | simp [SV.ok,SV.ay]) (by first | rfl | simp [Hp.ok,Ob.ok,SV.ok,SV.ay,aD.aq]) (by simp) ?_;dsimp only [final_Verdicts.s,Co.M,Co.J,Co.F,Co.K,Co.Q,Co.x,Co.S];refine SW.seq (SW.g0 [0,1,3,4,5] Zm af ?_);refine SW.seq (SW.tP ?_);(repeat (first | refine aV.op af (h:= ?_) | refine aV.dQ af (h:= ?_) | refine aV.skip (h:= ?_)));refine aV.bC (Lx l hl hd st) (HSub.nil _) (h:= ?_);rintro _ _ ⟨S,h,rfl,rfl⟩;simp only [bR,cg,cq,gh,gf,cE,lk,List.lookup,Nat.reduceBEq,BEq.rfl,beq_self_eq_true,if_true,if_false,reduceIte,Nat.reduceEqDiff,Bool.false_eq_true,Option.isSome_some,Option.isSome_none,Nat.reduceAdd];(repeat (first | refine aV.op af (h:= ?_) | refine aV.dQ af (h:= ?_) | refine aV.skip (h:= ?_)));refine aV.nil ?_;have cV:=GV h hl st;rw [Jj h st];generalize (kR l).filter (yO l st)=R at cV ⊢;refine SW.seq (SW.tP ?_);(repeat (first | refine aV.op af (h:= ?_) | refine aV.dQ af (h:= ?_) | refine aV.skip (h:= ?_)));refine aV.bC cV (λ n ob hn=> ?_) (h:= ?_)
 .show lk (AA S h.X st ⟨[],0⟩++[(0,Ob.box 39 st.cells)]) n=some ob
  rw [iK,hn];rfl
 intro r F hh;obtain ⟨K',h1,h2⟩:=hh;subst h1;subst h2;simp only [bR,cg,cq,gh,gf,cE,lk,List.lookup,Nat.reduceBEq,BEq.rfl,beq_self_eq_true,if_true,if_false,reduceIte,Nat.reduceEqDiff,Bool.false_eq_true,Option.isSome_some,Option.isSome_none,Nat.reduceAdd];(repeat (first | refine aV.op af (h:= ?_) | refine aV.dQ af (h:= ?_) | refine aV.skip (h:= ?_)));refine aV.nil ?_;refine SW.freeze 21 (R.flatMap Dt.ds) rfl rfl ?_;simp only [k_,SV.iB,List.map_cons,List.map_nil,if_true,if_false,reduceIte,Nat.reduceEqDiff];refine SW.ret ?_;exact End.mk [] (h4:=⟨rfl,rfl⟩)
theorem rW (l:List ag)(hl:l.length<=80)(hd:l_ l)(st:aD)(k:Nat):aJ Tryz.prog final_Verdicts.f [ops l,.agg st.cells] [] k 0 (bq ((kR l).filter λ d=>decide (dm l st d=[]))) []:=(GZ l hl hd st).sc rfl k
end
section
attribute [local irreducible] SW RW aJ SC ai an iN yU
theorem NH {P:Program}{env:List (Nat×SV)}{hp:Hp}{k d p q s:Nat}{g:Option (Nat×Bool)}{r:List SI}{K:St->List (Bool×List Nat)->Prop}(a b c:Dt)
  (hg:g=none\/∃ t w,g=some (t,w)/\env.lookup t=some (.d (.bool w))) (ha:env.lookup p=some (.agg a.cells)) (hb:env.lookup q=some (.agg b.cells)) (hc:env.lookup s=some (.agg c.cells))
  (h:RW P r ⟨(d,bq [a,b,c])::env,hp,k⟩ λ st' ts=>K st' ((false,[])::ts)):RW P (⟨some d,.qf 37 2 3 [.d (.int .u8 0),.d (.int .u32 0),.d (.int .u8 0),.d (.int .u32 0),.d (.int .u8 0),.d (.int .u32 0)] [(0,2,.t p),(2,2,.t q),(4,2,.t s)],g⟩::r) ⟨env,hp,k⟩ K:=by
 refine RW.cons (e:=⟨bq [a,b,c],[],[],0,(2=2/\0+2<=6/\2=2/\2+2<=6/\2=2/\4+2<=6/\True)⟩) (λ dG=>⟨.iB::dG,fm hg ?_⟩) (by show (2=2/\0+2<=6/\2=2/\2+2<=6/\2=2/\4+2<=6/\True);decide) ?_
 .have h1:vT (λ t=>env.lookup t) [(0,2,X.t p),(2,2,X.t q),(4,2,X.t s)]=some [(0,2,.agg a.cells),(2,2,.agg b.cells),(4,2,.agg c.cells)]:=by
   simp only [vT,ev,ha,hb,hc]
  have h2:mM [SV.d (.int .u8 0),SV.d (.int .u32 0),SV.d (.int .u8 0),SV.d (.int .u32 0),SV.d (.int .u8 0),SV.d (.int .u32 0)] [(0,2,.agg a.cells),(2,2,.agg b.cells),(4,2,.agg c.cells)]=some (a.cells++(b.cells++c.cells),(2=2/\0+2<=6/\2=2/\2+2<=6/\2=2/\4+2<=6/\True)):=rfl;have h3:fu (a.cells++(b.cells++c.cells))=some ([a,b,c].flatMap Dt.ds):=rfl;have h4:(a.cells++(b.cells++c.cells)).all SV.dJ=true:=rfl;simp only [fM,dF,h1,h2,h3,h4,if_true,Bool.false_or];rfl
 .exact h
theorem NI {P:Program}{env:List (Nat×SV)}{hp:Hp}{k d p q s v:Nat}{g:Option (Nat×Bool)}{r:List SI}{K:St->List (Bool×List Nat)->Prop}(a b c e:Dt)
  (hg:g=none\/∃ t w,g=some (t,w)/\env.lookup t=some (.d (.bool w))) (ha:env.lookup p=some (.agg a.cells)) (hb:env.lookup q=some (.agg b.cells)) (hc:env.lookup s=some (.agg c.cells)) (he:env.lookup v=some (.agg e.cells))
  (h:RW P r ⟨(d,bq [a,b,c,e])::env,hp,k⟩ λ st' ts=>K st' ((false,[])::ts)):RW P (⟨some d,.qf 37 2 4 [.d (.int .u8 0),.d (.int .u32 0),.d (.int .u8 0),.d (.int .u32 0),.d (.int .u8 0),.d (.int .u32 0),.d (.int .u8 0),.d (.int .u32 0)] [(0,2,.t p),(2,2,.t q),(4,2,.t s),(6,2,.t v)],g⟩::r) ⟨env,hp,k⟩ K:=by
 refine RW.cons (e:=⟨bq [a,b,c,e],[],[],0,(2=2/\0+2<=8/\2=2/\2+2<=8/\2=2/\4+2<=8/\2=2/\6+2<=8/\True)⟩) (λ dG=>⟨.iB::dG,fm hg ?_⟩) (by show (2=2/\0+2<=8/\2=2/\2+2<=8/\2=2/\4+2<=8/\2=2/\6+2<=8/\True);decide) ?_
 .have h1:vT (λ t=>env.lookup t) [(0,2,X.t p),(2,2,X.t q),(4,2,X.t s),(6,2,X.t v)]=some [(0,2,.agg a.cells),(2,2,.agg b.cells),(4,2,.agg c.cells),(6,2,.agg e.cells)]:=by
   simp only [vT,ev,ha,hb,hc,he]
  have h2:mM [SV.d (.int .u8 0),SV.d (.int .u32 0),SV.d (.int .u8 0),SV.d (.int .u32 0),SV.d (.int .u8 0),SV.d (.int .u32 0),SV.d (.int .u8 0),SV.d (.int .u32 0)] [(0,2,.agg a.cells),(2,2,.agg b.cells),(4,2,.agg c.cells),(6,2,.agg e.cells)]=some (a.cells++(b.cells++(c.cells++e.cells)),(2=2/\0+2<=8/\2=2/\2+2<=8/\2=2/\4+2<=8/\2=2/\6+2<=8/\True)):=rfl;have h3:fu (a.cells++(b.cells++(c.cells++e.cells)))=some ([a,b,c,e].flatMap Dt.ds):=rfl;have h4:(a.cells++(b.cells++(c.cells++e.cells))).all SV.dJ=true:=rfl;simp only [fM,dF,h1,h2,h3,h4,if_true,Bool.false_or];rfl
 .exact h
set_option maxRecDepth 100000 in
set_option maxHeartbeats 4000000 in
theorem DI:Go.Sl.Pure Tryz.prog law20_row.f [] (ops [q1,q2,q3,q4,q5]):=by
 refine law20_row.enter (by first | rfl | simp [SV.ok,SV.ay]) (by first | rfl | simp [Hp.ok,Ob.ok,SV.ok,SV.ay,aD.aq]) (by simp) ?_;dsimp only [law20_row.s,Co.M,Co.J,Co.F,Co.b8,Co.aB,Co.bN,Co.z8,Co.bW,Co.K,Co.W,Co.S];refine SW.seq (SW.g0 [0,1] Zm af ?_);refine SW.seq (SW.g0 [0,1] Zm af ?_);refine SW.seq ?_
 (refine SW.dL [0,1] Zm ?_;(repeat (first | refine RW.Gq q1.cells rfl rfl (by decide) (h:= ?_) | refine RW.Gq q2.cells rfl rfl (by decide) (h:= ?_) | refine RW.Gq q3.cells rfl rfl (by decide) (h:= ?_) | refine RW.Gq q4.cells rfl rfl (by decide) (h:= ?_) | refine RW.Gq q5.cells rfl rfl (by decide) (h:= ?_) | refine Ow q1 q2 q3 q4 q5 rfl rfl rfl rfl rfl rfl (h:= ?_) | refine RW.ro af (h:= ?_) | refine RW.skip (h:= ?_) | refine RW.op af (h:= ?_) | refine RW.dQ af (h:= ?_) | refine RW.bF (h:= ?_)));refine RW.nil ⟨by kernel_rfl,an.mk (h:= ?_)⟩)
 refine SW.ret ?_;exact End.mk [] (h4:=⟨rfl,rfl⟩)
theorem DJ (k:Nat):aJ Tryz.prog law20_row.f [] [] k 0 (ops bH) []:=by
 have h0:aJ Tryz.prog law20_row.f [] [] k 0 (ops [q1,q2,q3,q4,q5]) []:=DI.sc rfl k;refine SC.Nd h0 λ p μ M u hu=> ?_
 rw [Rp.cZ] at hu ⊢;have:=bY.OY hu;rw [<- EI] at this;exact this
theorem oP:l_ bH:=Gs
theorem PC (k:Nat):aJ Tryz.prog final_Verdicts.f [ops bH,.agg (iD 4).cells] [] k 0 (bq [⟨0,1⟩,⟨0,2⟩,⟨0,3⟩]) []:=by
 have:=rW bH (by decide) oP (iD 4) k
 rwa [ON] at this
theorem OO (k:Nat):aJ Tryz.prog final_Verdicts.f [ops bH,.agg (ji 4 1).cells] [] k 0 (bq [⟨0,1⟩,⟨0,2⟩,⟨0,3⟩,⟨0,4⟩,⟨1,1⟩]) []:=by
 have:=rW bH (by decide) oP (ji 4 1) k
 rwa [NC] at this
theorem OP (k:Nat):aJ Tryz.prog final_Verdicts.f [ops bH,.agg (ji 3 1).cells] [] k 0 (bq [⟨0,1⟩,⟨0,2⟩,⟨0,3⟩,⟨1,1⟩]) []:=by
 have:=rW bH (by decide) oP (ji 3 1) k
 rwa [ND] at this
theorem OQ (k:Nat):aJ Tryz.prog final_Waits.f [ops bH,.agg (iD 4).cells,.agg (Dt.mk 0 4).cells] [] k 0 (.eu [bq [⟨1,1⟩],.d (.int .i64 0)]) []:=by
 have:=vG bH (by decide) oP (iD 4) ⟨0,4⟩ k
 rwa [NF] at this
theorem OR (k:Nat):aJ Tryz.prog final_Waits.f [ops bH,.agg (iD 4).cells,.agg (Dt.mk 0 5).cells] [] k 0 (.eu [.d .aN,.d (.int .i64 7)]) []:=by
 have:=vG bH (by decide) oP (iD 4) ⟨0,5⟩ k
 rwa [NG] at this
theorem v4:cG aD.zero.cells 0 [.d (.int .u32 4)]=(iD 4).cells:=rfl
theorem v3:cG aD.zero.cells 0 [.d (.int .u32 3)]=(iD 3).cells:=rfl
theorem v41:cG (iD 4).cells 1 [.d (.int .u32 1)]=(ji 4 1).cells:=rfl
theorem v31:cG (iD 3).cells 1 [.d (.int .u32 1)]=(ji 3 1).cells:=rfl
theorem e5:cG (Dt.mk 0 0).cells 1 [.d (.int .u32 5)]=(Dt.mk 0 5).cells:=rfl
theorem PD:cG (Dt.mk 0 0).cells 1 [.d (.int .u32 1)]=(Dt.mk 0 1).cells:=rfl
theorem PE:cG (Dt.mk 0 0).cells 1 [.d (.int .u32 2)]=(Dt.mk 0 2).cells:=rfl
theorem OS:cG (cG (Dt.mk 0 0).cells 0 [.d (.int .u8 1)]) 1 [.d (.int .u32 1)]=(Dt.mk 1 1).cells:=rfl
theorem l5:((([⟨0,1⟩,⟨0,2⟩,⟨0,3⟩,⟨0,4⟩,⟨1,1⟩]:List Dt).length:Int) == 5)=true:=rfl
theorem PF (k:Nat):aJ Tryz.prog ref03_Same.f [bq [⟨0,1⟩,⟨0,2⟩,⟨0,3⟩],bq [⟨0,1⟩,⟨0,2⟩,⟨0,3⟩]] [] k 0 (.d (.bool true)) []:=yo [⟨0,1⟩,⟨0,2⟩,⟨0,3⟩] [⟨0,1⟩,⟨0,2⟩,⟨0,3⟩] (by decide) (by decide) k
theorem PG (k:Nat):aJ Tryz.prog ref03_Same.f [bq [⟨0,1⟩,⟨0,2⟩,⟨0,3⟩,⟨1,1⟩],bq [⟨0,1⟩,⟨0,2⟩,⟨0,3⟩,⟨1,1⟩]] [] k 0 (.d (.bool true)) []:=yo [⟨0,1⟩,⟨0,2⟩,⟨0,3⟩,⟨1,1⟩] [⟨0,1⟩,⟨0,2⟩,⟨0,3⟩,⟨1,1⟩] (by decide) (by decide) k
theorem PI (k:Nat):aJ Tryz.prog ref03_Same.f [bq [⟨1,1⟩],.d (.sl 1 (Dt.mk 1 1).ds)] [] k 0 (.d (.bool true)) []:=yo [⟨1,1⟩] [⟨1,1⟩] (by decide) (by decide) k
set_option maxHeartbeats 16000000 in
theorem DK:Go.Sl.Pure Tryz.prog law20_head.f [] (bl true):=by
 refine law20_head.enter (by first | rfl | simp [SV.ok,SV.ay]) (by first | rfl | simp [Hp.ok,Ob.ok,SV.ok,SV.ay,aD.aq]) (by simp) ?_;dsimp only [law20_head.s,Co.M,Co.G,Co.J,Co.H,Co.F,Co.C,Co.Z,Co.B,Co.b8,Co.aB,Co.z8,Co.E,Co.Q,Co.R,Co.U,Co.S];refine SW.seq (SW.g0 [0,1,2,3,4,5,6,8] Zm af ?_);refine SW.seq (SW.g1 [0,1,2,3,4,5,6,8] Zm af DJ ?_);refine SW.seq (SW.g4 [0,1,2,3,4,5,6,8] Zm (Zq v4 (Zq v3 (Zq v41 v31))) PC OO OP trivial ?_);refine SW.seq (SW.g1 [0,1,2,3,4,5,6,8] Zm (Zq v4 d4) OQ ?_);refine SW.seq (SW.g1 [0,1,2,3,4,5,6,8] Zm (Zq v4 e5) OR ?_);refine SW.seq ?_
 (have fx:=(Zq PD (Zq PE (Zq d3 (Zq OS l5))));refine SW.dL [0,1,2,3,4,5,6,8] Zm ?_;(repeat (first | refine NH (Dt.mk 0 1) (Dt.mk 0 2) (Dt.mk 0 3) (.inl rfl) rfl rfl rfl (h:= ?_) | refine NI (Dt.mk 0 1) (Dt.mk 0 2) (Dt.mk 0 3) (Dt.mk 1 1) (.inr (Exists.intro _ (Exists.intro _ (Zq rfl rfl)))) rfl rfl rfl rfl (h:= ?_) | refine RW.ro fx (h:= ?_) | refine RW.skip (h:= ?_) | refine RW.op fx (h:= ?_) | refine RW.dQ fx (h:= ?_) | refine RW.bF (h:= ?_) | (refine RW.bC (h:= ?_);(first | refine ai.mk fx (hc:=PF _) (h:= ?_) | refine ai.mk fx (hc:=PG _) (h:= ?_) | refine ai.mk fx (hc:=PI _) (h:= ?_)))));refine RW.nil ⟨by kernel_rfl,an.mk (h:= ?_)⟩)
 refine SW.ret ?_;exact End.mk [] (h4:=⟨rfl,rfl⟩)
theorem fL (k:Nat):aJ Tryz.prog law20_head.f [] [] k 0 (.d (.bool true)) []:=DK.sc rfl k
end
end Go.Proofs.YtaelhkkjgfobhaaGreat
