/-
 Final: whose verdicts are final.
-/
import Derived.Test.YtaelhkkjgfobhaaGreatU6
import Derived.Test.YtaelhkkjgfobhaaGreatUZ
import Derived.Test.YtaelhkkjgfobhaaGreatUE
import Derived.Test.YtaelhkkjgfobhaaGreatUV
import Derived.Test.YtaelhkkjgfobhaaGreatU5
set_option linter.unusedSectionVars false
set_option linter.unusedVariables false
set_option linter.unusedSimpArgs false
namespace Go.Proofs.YtaelhkkjgfobhaaGreat
open Go.Sl Go.Proofs
section
attribute [local irreducible] SW RW aG SC ai aq jQ zc
noncomputable def dR (l:List ag)(d:Dt):List Dt:=if dx l d then (bD l).filter (mA l d) else []
noncomputable def n_ (l:List ag)(st:aB)(d:Dt):Bool:=eB (iI st) (dR l) 10 d
abbrev iR (l:List ag):List Dt:=Dt.set (l.map (·.dot))
section
variable {l:List ag} {S:Sh} (h:bP l S)
include h
theorem bP.tA:h.X.bU=dR l:=by
 funext d
 unfold Ix.bU dR;rw [h.KS,h.Bz];cases hg:dx l d with
 | false=>rfl
 | true=>
  have hg':S.good d=true:=by rw [h.Bz];exact hg
  simp only [if_true];exact h.NH hg'
theorem bP.lvl (d t:Dt)(ht:t∈h.X.bU d):h.X.uR t<h.X.uR d:=by
 unfold Ix.bU at ht;rw [h.KS] at ht;cases hg:S.good d with
 | false=>rw [hg] at ht;cases ht
 | true=>
  rw [hg,if_pos rfl,Dt.mem_set,h.NF hg,h.MA hg] at ht;obtain ⟨h1,_,_,_,h5,_,_⟩:=h.hit hg ht;unfold Ix.uR;rw [h.FT h1,h.FT hg];exact h5
theorem bP.oL (d:Dt):h.X.uR d<10:=by
 cases hg:S.good d with
 | true=>
  unfold Ix.uR;rw [h.FT hg];have:=h.Bw (S.op d);omega
 | false=>unfold Ix.uR;rw [h.Jn hg];decide
theorem bP.BE (hl:l.length≤80)(d:Dt):(h.X.bU d).length<1000000000:=by
 unfold Ix.bU
 split
 ·exact h.tn hl _
 ·decide
end
theorem KM.zG (fin:Dt→Bool):(KM.mk [] 0).ok fin:=fun d=> .inl rfl
theorem K5 (S:Sh)(X:Ix)(st:aB)(K K':KM)(q:Nat→Bool)(h:(zl S X st K).ok q=true):(zl S X st K').ok q=true:=by
 simp only [Hp.ok,List.all_cons,Ob.ok,nJ] at h ⊢;exact h
theorem N_ {l:List ag}{S:Sh}(h:bP l S)(hl:l.length≤80)(st:aB):IA Tryz.prog final_asker_final.f [.ptr 18 0] [] (zl S h.X st) (n9 (iI st) h.X.bU 10) (eB (iI st) h.X.bU 10) 0 (KM.ok (eB (iI st) h.X.bU 10)) where
 nd K:=by simp
 nm K K':=rfl
 step K d hK:=(pL h.lvl h.oL 10 K d (h.oL d) hK).1
 ok K d q hq:=K5 S _ st K _ q hq
 call K d k hK _:=by
  have:=SB.o8 Lq (uU S h.X (h.small hl) st h.X.uR h.lvl 10 h.oL (h.BE hl) 10 d K (h.oL d) hK) (by decide) (fun i hi=>Jq S h.X st K i hi) k
  rw [BC,BC] at this
  simpa [SV.aT,SV.aC,fq,Dt.av] using this
 a1 K q hq:=by
  simp only [Hp.ok,List.all_cons,Bool.and_eq_true] at hq;exact ⟨by simp [SV.ay,SV.ok,hq.1.1],rfl⟩
 cl K:=tw S _ st K _ fun n hn=>by
  simp only [List.mem_cons,List.not_mem_nil,or_false] at hn;rcases hn with rfl | rfl | rfl | rfl | rfl | rfl | rfl | rfl | rfl | rfl | rfl | rfl | rfl <;> rfl
abbrev BF (S:Sh):Hp:=[(12,.box 117 [.ptr 4 0,.mp 9,.mp 10,.mp 11]),(9,.map (au Dt.cells ov S.ops) S.co),(10,.map (au Dt.cells iv S.fS) S.ca),(11,.map (au Dt.cells dv S.lS) S.cl),(4,.box 166 [.mp 2,.mp 3]),(2,.map (au Dt.cells cv S.tr) S.ct),(3,.map (au Dt.cells ov S.md) S.cm)]
theorem ID (S:Sh)(X:Ix)(st:aB)(K:KM):HSub (BF S) (zl S X st K):=by
 refine HSub.cons ?_ (HSub.cons ?_ (HSub.cons ?_ (HSub.cons ?_ (HSub.cons ?_ (HSub.cons ?_ (HSub.cons ?_ (HSub.nil _))))))) <;> rfl
theorem IE (S:Sh)(X:Ix)(st:aB)(K:KM)(o:Ob):bQ false (zl S X st K) (BF S) ((21,o)::BF S)=(21,o)::zl S X st K:=by
 simp only [bQ,bV,bW,fE,fD,cZ,lk,List.lookup,Nat.reduceBEq,BEq.rfl,beq_self_eq_true,if_true,if_false,reduceIte,Nat.reduceEqDiff,Bool.false_eq_true,Option.isSome_some,Option.isSome_none]
theorem BG {l:List ag}{S:Sh}(h:bP l S)(hl:l.length≤80)(st:aB)(K:KM):aG Tryz.prog shape_Shape_Dots.f [.ptr 12 0] (zl S h.X st K) 20 2 (.gs 21 (iR l).length) ((21,nU (iR l) 21)::zl S h.X st K):=by
 have h1:=SB.o8 [12,9,10,11,4,2,3] (wF S h.base.ops.wf (by have:=h.iU;omega)) (by decide) (fun i hi=>S.Bi i hi) 20
 rw [h.xE] at h1;show aG _ _ _ _ _ _ (.gs 21 (Dt.set (l.map (·.dot))).length) ((21,nU (Dt.set (l.map (·.dot))) 21)::_)
 generalize Dt.set (l.map (·.dot))=D at h1 ⊢
 have e1:S.h0.aC (fq [12,9,10,11,4,2,3] 20)=BF S:=by simp [Hp.aC,Ob.aC,SV.aT,SV.aC,fq,bH,cg,dV,dB]
 have e2:Hp.aC (fq [12,9,10,11,4,2,3] 20) ((8,nU D 8)::S.h0)=(21,nU D 21)::BF S:=by
  rw [← e1];simp [Hp.aC,Ob.aC,fq,SV.gz]
 rw [e1,e2] at h1;have h2:aG Tryz.prog shape_Shape_Dots.f [.ptr 12 0] (BF S) 20 2 (.gs 21 D.length) ((21,nU D 21)::BF S):=h1;unfold aG at h2 ⊢;have h3:=SC.frame h2 (ID S h.X st K);refine SC.mono h3 fun r F hh=> ?_
 obtain ⟨F1,⟨h4,h5⟩,h6⟩:=hh;rw [h5,IE] at h6;exact ⟨h4,h6⟩
theorem Gd {l:List ag}{S:Sh}(h:bP l S)(hl:l.length≤80)(st:aB):SC Tryz.prog final_asker_some.f [.ptr 18 0,.fn (.func final_asker_final.f) [.ptr 18 0] []] (zl S h.X st ⟨[],0⟩) 19 (3+((iR l).length*(1+0)+(iR l).length*(1+0+1))) fun r F=>∃ K',r= .gs 21 ((iR l).filter (n_ l st)).length∧F=(21,nU ((iR l).filter (n_ l st)) 21)::zl S h.X st K':=by
 have hds:(iR l).length≤80:=h.jk hl;have lg:=(N_ h hl st).cl ⟨[],0⟩;have:=(BB (N_ h hl st) ⟨[],0⟩ (KM.zG _) 18 12 16 17 st (iR l) (by omega) 19 (tw S _ st _ _ (by decide)) rfl (BG h hl st _) (fun K n hn=>fW (by simp;omega))).here (fun n=>(lk (zl S h.X st ⟨[],0⟩) n).isSome) (fun n hn e=>by rw [e] at hn;cases hn) (by simp [SV.ay,SV.ok,aa]) lg (by
  rintro r F ⟨K',_,rfl,rfl⟩ _ _;refine ⟨by simp [SV.ok];right;omega,an (by simp;right;omega) (SV.bk _) (tw S _ st _ _ fun n hn=> ?_)⟩
  rw [Bool.or_eq_true];left;simp only [List.mem_cons,List.not_mem_nil,or_false] at hn;rcases hn with rfl | rfl | rfl | rfl | rfl | rfl | rfl | rfl | rfl | rfl | rfl | rfl | rfl <;> rfl)
 refine SC.mono this ?_;rintro r F ⟨K',_,rfl,rfl⟩;have e:eB (iI st) h.X.bU 10=n_ l st:=by rw [h.tA];rfl
 rw [e];exact ⟨K',rfl,rfl⟩
end
section
attribute [local irreducible] SW RW aG SC ai aq jQ zc
abbrev Oc (S:Sh):Hp:=[(13,.box 117 [.ptr 5 0,.mp 10,.mp 11,.mp 12]),(10,.map (au Dt.cells ov S.ops) S.co),(11,.map (au Dt.cells iv S.fS) S.ca),(12,.map (au Dt.cells dv S.lS) S.cl),(5,.box 166 [.mp 3,.mp 4]),(3,.map (au Dt.cells cv S.tr) S.ct),(4,.map (au Dt.cells ov S.md) S.cm)]
abbrev OL:Sn:=⟨13,10,11,12,5,3,4⟩
theorem NL {l:List ag}{S:Sh}(h:bP l S)(hs:ji S)(d:Dt)(k:Nat):aG Tryz.prog shape_Shape_Op.f [.ptr 13 0,.agg d.cells] (Oc S) k 0 (.dw [.agg (S.op d).cells,bl (MM.has S.ops d)]) (Oc S):=
 S.at_ (xx S hs d) (fun ρ=>by simp [SV.aT,SV.aC,Dt.av]) (fun ρ=>by simp [SV.aT,SV.aC,ag.av]) OL (by unfold Sn.ok Sn.nl;decide) k
abbrev NM (S:Sh)(X:Ix)(st:aB)(K:KM)(M:IM):Hp:=(21,.map (au Dt.cells iv M.m) M.c)::NK S X st K
theorem IF {l:List ag}{S:Sh}(h:bP l S)(hl:l.length≤80)(st:aB)(K:KM)(d:Dt)(k:Nat):aG Tryz.prog final_asker_waits.f [.ptr 19 0,.agg d.cells,.mp 21] (NM S h.X st K ⟨[],0⟩) k 0 (.dw []) (NM S h.X st K (qn h.X.bU 10 ⟨[],0⟩ d)):=by
 have:=SB.o8 (N9++[21]) (F9 S h.X (h.small hl) st K h.X.uR h.lvl (h.BE hl) 10 d ⟨[],0⟩ (h.oL d)) (by decide) (fun i hi=>Js S h.X st K _ i (by simpa using hi)) k
 have e:∀ M:IM,(wH S h.X st K M).aC (fq (N9++[21]) k)=NM S h.X st K M:=fun M=>by
  simp [Hp.aC,Ob.aC,SV.aT,SV.aC,fq,lF,jP,bH,eG,cg,dV,dB]
 rw [e,e] at this
 simpa [SV.aT,SV.aC,fq,Dt.av] using this
noncomputable def dy (l:List ag)(st:aB)(d:Dt):List Dt:= @List.filter _ (fun e=> @decide (Reach (dR l) d e) (Classical.propDecidable _) && !st.bA e) (iR l)
theorem jB {l:List ag}{st:aB}{d e:Dt}:e∈dy l st d↔e∈iR l∧Reach (dR l) d e∧st.bA e=false:=by
 unfold dy;rw [List.mem_filter];simp
theorem xN {l:List ag}{d:Dt}:d∈iR l↔(aJ l d).isSome=true:=by
 rw [Dt.mem_set,List.mem_map,nC]
theorem uV {l:List ag}{d:Dt}(h:dx l d=true):d∈iR l:=by
 rw [xN];unfold dx at h;cases hf:aJ l d with
 | none=>rw [hf] at h;cases h
 | some o=>rfl
theorem qp {l:List ag}{d t:Dt}(h:t∈dR l d):dx l t=true:=by
 unfold dR at h
 split at h
 ·exact wv.1 (List.mem_filter.1 h).1
 ·cases h
theorem rE {l:List ag}{d e:Dt}(hd:d∈iR l)(h:Reach (dR l) d e):e∈iR l:=by
 induction h with
 | refl=>exact hd
 | step ht _ ih=>exact ih (uV (qp ht))
theorem wJ {l:List ag}{st:aB}{d:Dt}(hd:d∈iR l){R:List Dt}(hR:∀ e,e∈R↔Reach (dR l) d e∧st.bA e=false):Dt.set R=dy l st d:=
 Dt.iZ (Dt.jA _) ((Dt.jA _).filter _) fun v=>by
  rw [Dt.mem_set,hR];show _↔v∈dy l st d;rw [jB];exact ⟨fun h=>⟨rE hd h.1,h⟩,fun h=>h.2⟩
noncomputable def jW (l:List ag)(st:aB)(d:Dt):SV:=if (aJ l d).isSome then .dw [bp (dy l st d),i64 0] else .dw [.d .aK,i64 7]
def qq (st:aB)(xs:MM Dt Int):List Dt:=(xs.map (·.2.1)).filter fun e=> !st.bA e
theorem CQ (st:aB)(xs:MM Dt Int)(x:Nat×Dt×Int):qq st (xs++[x])=if st.bA x.2.1 then qq st xs else qq st xs++[x.2.1]:=by
 unfold qq;rw [List.map_append,List.filter_append];cases h:st.bA x.2.1 <;> simp [h]
theorem CS {M xs:MM Dt Int}{c:Nat}(hwf:MM.wf M c)(p1:∀ x,x∈xs→x∈M)(hall:∀ e,e∈au Dt.cells iv M→(xs.map (·.1)).contains e.1=true):∀ x,x∈xs↔x∈M:=fun x=>⟨p1 x,fun hx=>by
 have:=hall _ (List.mem_map.2 ⟨x,hx,rfl⟩);simp only [List.contains_iff_mem] at this;obtain ⟨z,hz,e⟩:=List.mem_map.1 this;rw [← MM.qP hwf.times (p1 z hz) hx e];exact hz⟩
theorem AD {M xs:MM Dt Int}(p1:∀ x,x∈xs→x∈M)(p2:(xs.map (·.1)).Nodup){x:Nat×Dt×Int}(hx:x∈M)(hs:(xs.map (·.1)).contains x.1=false):(∀ z,z∈xs++[x]→z∈M)∧((xs++[x]).map (·.1)).Nodup∧x.1∉xs.map (·.1):=by
 have hxt:x.1∉xs.map (·.1):=fun h=>by
  have:(xs.map (·.1)).contains x.1=true:=by simpa only [List.contains_iff_mem] using h
  rw [this] at hs;cases hs
 refine ⟨fun z hz=> ?_,?_,hxt⟩
 ·rcases List.mem_append.1 hz with hz | hz
  ·exact p1 z hz
  ·rw [List.mem_singleton.1 hz];exact hx
 ·rw [List.map_append,List.nodup_append]
  refine ⟨p2,by simp,fun a ha b' hb'=> ?_⟩
  simp only [List.map_cons,List.map_nil,List.mem_singleton] at hb';intro e;exact hxt (by rw [← hb',← e];exact ha)
structure WI (M:IM)(xs:MM Dt Int):Prop where
 sub:∀ x,x∈xs→x∈M.m
 nd:(xs.map (·.1)).Nodup
abbrev wL (st:aB)(M:IM)(seen:List Nat)(R:List Dt):Hp:=[(23,.iter (some 21) M.c seen M.c),(22,nU R 22),(21,.map (au Dt.cells iv M.m) M.c),(0,.box 39 st.cells)]
theorem Jv (st:aB)(M:IM)(seen:List Nat)(R:List Dt):(wL st M seen R).ok (fun n=>decide (n<24))=true:=
 an (by decide) (It _ _ _ _ _ (by decide)) (an (by decide) (SV.bk _) (an (by decide) (bG _ _) (an (by decide) (aB.aj _ _) rfl)))
set_option maxHeartbeats 8000000 in
theorem AE (l:List ag)(hl:l.length≤80)(hd:nV l)(st:aB)(d:Dt):Go.Sl.Pure Tryz.prog final_Waits.f [ops l,.agg st.cells,.agg d.cells] (jW l st d):=by
 refine final_Waits.enter (by first | rfl | simp [SV.ok,SV.ay]) (by first | rfl | simp [Hp.ok,Ob.ok,SV.ok,SV.ay,aB.aj]) (by simp) ?_
 dsimp only [final_Waits.s,Co.M,Co.G,Co.J,Co.H,Co.N,Co.F,Co.C,Co.Z,Co.B,Co.b8,Co.ax,Co.bC,Co.i6,Co.z8,Co.bF];refine SW.seq ?_;refine SW.g0 [0,1,2,4,5,6,7,8,10,11,12,13,27,34,36,42] mixed af ?_;refine SW.seq (SW.ve ?_)
 (repeat (first | refine bq.op af (h:= ?_) | refine bq.di af (h:= ?_) | refine bq.skip (h:= ?_)))
 refine bq.aM (K4 l hl hd st) (HSub.nil _) (h:= ?_);rintro _ _ ⟨S,h,rfl,rfl⟩;simp only [bQ,bV,bW,fE,fD,cZ,lk,List.lookup,Nat.reduceBEq,BEq.rfl,beq_self_eq_true,if_true,if_false,reduceIte,Nat.reduceEqDiff,Bool.false_eq_true,Option.isSome_some,Option.isSome_none,Nat.reduceAdd]
 (repeat (first | refine bq.op af (h:= ?_) | refine bq.di af (h:= ?_) | refine bq.skip (h:= ?_)))
 refine bq.nil ?_;have cO:=NL h (h.short hd) d;have hhas:MM.has S.ops d=(aJ l d).isSome:=h.base.has d;rw [hhas] at cO;have b0:=FY st 13 17 18;have bl0:(0+1≤(sP st 13 17 18).length)=True:=eq_true (by rw [zi];decide)
 refine SW.seq (SW.seq ?_);refine SW.g1 [0,1,2,4,5,6,7,8,10,11,12,13,27,34,36,42] mixed (And.intro (b0) (bl0)) cO ?_;refine SW.seq ?_;cases hf:(aJ l d).isSome with
 | false=>
  have e:jW l st d= .dw [.d .aK,i64 7]:=by unfold jW;rw [hf];rfl
  rw [e];refine SW.g0 [0,1,2,4,5,6,7,8,10,11,12,13,27,34,36,42] mixed af ?_;refine SW.ak rfl (SW.seq ?_);refine SW.g0 [0,1,2,4,5,6,7,8,10,11,12,13,27,34,36,42] mixed af ?_;refine SW.ret ?_;exact End.mk [] (h4:=⟨rfl,rfl⟩)
 | true=>
  have e:jW l st d= .dw [bp (dy l st d),i64 0]:=by unfold jW;rw [hf];rfl
  rw [e];refine SW.g0 [0,1,2,4,5,6,7,8,10,11,12,13,27,34,36,42] mixed af ?_;refine SW.ah rfl (SW.skip ?_);refine SW.seq ?_;refine SW.g0 [0,1,2,4,5,6,7,8,10,11,12,13,27,34,36,42] mixed af ?_;refine SW.seq ?_;have cW:=IF h hl st ⟨[],0⟩ d;have hMr:∀ e,(qn h.X.bU 10 ⟨[],0⟩ d).get e>0↔Reach (dR l) d e:=fun e=>by
   rw [CO h.lvl (h.oL d),h.tA]
  have hMg:=zj (eH:=h.X.bU) 10 ⟨[],0⟩ d IM.MF;generalize qn h.X.bU 10 ⟨[],0⟩ d=M at cW hMr hMg;have hdd:d∈iR l:=xN.2 hf;have hMl:M.m.length≤80:=by
   have h1:=hMg.1.keys.length_le_of_subset (l₂:=iR l) fun e he=>by
    rw [← MM.ia,hMg.has,hMr] at he;exact rE hdd he
   have h2:=h.jk hl;have h3:(MM.keys M.m).length=M.m.length:=by simp [MM.keys]
   have h4:(iR l).length≤80:=h2;omega
  refine SW.g1 [0,1,2,4,5,6,7,8,10,11,12,13,27,34,36,42] mixed af cW ?_;refine SW.seq ?_;refine SW.g0 [0,1,2,4,5,6,7,8,10,11,12,13,27,34,36,42] mixed af ?_;refine SW.lM 12 37 2 rfl ?_;refine SW.seq (SW.seq ?_);refine SW.g0 [0,1,2,4,5,6,7,8,10,11,12,13,27,34,36,42] mixed af ?_;refine SW.block ?_;refine SW.qR (es:=fun _=>au Dt.cells iv M.m) (c:=fun _=>M.c) (uk:=fun _=>23) (nm:=fun _=>21) (since:=fun _=>M.c) (A6:=fun _=>M.c)
   (α:={xs:MM Dt Int // WI M xs})
   (fun p=>⟨[(34,.it 23),(12,.gs 22 (qq st p.1).length),(4,.ptr 0 0)],wL st M (p.1.map (·.1)) (qq st p.1),24⟩)
   (fun p=>iV (au Dt.cells iv M.m) (p.1.map (·.1))) ⟨[],by simp,by simp⟩ id (seen:=fun p=>p.1.map (·.1)) ?_ (fun p=>by simp [List.lookup]) (fun p=>by simp [aa]) (fun p=>by simp [aa]) (fun p=>by decide) (fun p e' he=> ?_) (fun p=>Nat.le_refl _) (fun p hall=> ?_) (fun p e' he hs=> ?_)
  ·refine aP.same (Nat.zero_le _) (by simp [aZ,List.lookup,SV.aC,SV.ok,SV.ay,qq]) (Jv st M _ _) (fun y hy=> ?_)
   simp only [List.mem_cons,List.not_mem_nil,or_false] at hy;rcases hy with rfl | rfl | rfl | rfl <;> rfl
  ·obtain ⟨x,hx,rfl⟩:=fP he
   exact hMg.1.old x hx
  ·obtain ⟨xs,p⟩:=p
   dsimp only at*;have hxs:=CS hMg.1 p.sub hall;have hR:∀ e,e∈qq st xs↔Reach (dR l) d e∧st.bA e=false:=fun e=>by
    unfold qq;rw [List.mem_filter,← hMr,← hMg.has,MM.ia];unfold MM.keys;simp only [List.mem_map,hxs,Bool.not_eq_true']
   have hRl:(qq st xs).length≤80:=by
    have h1:=List.length_filter_le (fun e=> !st.bA e) (xs.map (·.2.1))
    have h2:=p.nd.length_le_of_subset (l₂:=M.m.map (·.1)) fun n hn=>by
     obtain ⟨z,hz,rfl⟩:=List.mem_map.1 hn;exact List.mem_map.2 ⟨z,p.sub z hz,rfl⟩
    simp only [List.length_map] at h1 h2;unfold qq;omega
   have hset20:=wJ hdd hR;rw [← hset20];generalize qq st xs=R at hRl ⊢;refine ⟨⟨[(12,.gs 22 R.length)],[(22,nU R 22)],24⟩,id,aP.same (Nat.zero_le _) (by simp [aZ,List.lookup,SV.aC,SV.ok,SV.ay]) (an (by simp) (SV.bk _) rfl) (fun y hy=>by
    rw [List.mem_singleton] at hy;subst hy;rfl),?_⟩
   rw [if_pos rfl];refine SW.freeze 22 (R.flatMap Dt.ds) rfl rfl ?_;simp only [jS,SV.iT,List.map_cons,List.map_nil,if_true,if_false,reduceIte,cZ,Nat.reduceEqDiff];have cS:=Bo R (by omega)
   refine SW.seq ?_;refine SW.g1 [0,1,2,4,5,6,7,8,10,11,12,13,27,34,36,42] mixed af cS ?_;refine SW.ret ?_;exact End.mk [] (h4:=⟨rfl,rfl⟩)
  ·obtain ⟨xs,p⟩:=p
   dsimp only at*;obtain ⟨x,hx,rfl⟩:=fP he;dsimp only at hs;have g5:(xs.map (·.1)++[x.1]).getLast? =some x.1:=by simp
   have g6:=l7 (kc:=Dt.cells) (vs:=iv) hMg.1.times hx;obtain ⟨q1,q2,_⟩:=AD p.sub p.nd hx hs;have em:(xs++[x]).map (·.1)=xs.map (·.1)++[x.1]:=by simp
   have hm:=l9 he hs;have hsn:=CQ st xs x;have hRl:(qq st xs).length≤80:=by
    have h1:=List.length_filter_le (fun e=> !st.bA e) (xs.map (·.2.1))
    have h2:=p.nd.length_le_of_subset (l₂:=M.m.map (·.1)) fun n hn=>by
     obtain ⟨z,hz,rfl⟩:=List.mem_map.1 hn;exact List.mem_map.2 ⟨z,p.sub z hz,rfl⟩
    simp only [List.length_map] at h1 h2;unfold qq;omega
   obtain ⟨v,hv⟩:∃ v,x.2.1=v:=⟨_,rfl⟩;rw [hv] at hsn;have cC:=pn st v;rw [jr];refine SW.block (SW.seq ?_);refine SW.g0 [0,1,2,4,5,6,7,8,10,11,12,13,27,34,36,42] mixed (And.intro (g5) (And.intro (g6) (hv))) ?_;refine SW.seq ?_;cases hcv:st.bA v with
   | true=>
    rw [hcv] at cC hsn;refine SW.g1 [0,1,2,4,5,6,7,8,10,11,12,13,27,34,36,42] mixed af cC ?_;refine SW.ah rfl (SW.skip ?_);refine ⟨⟨xs++[x],q1,q2⟩,id,by show iV _ ((xs++[x]).map (·.1))<_;rw [em];exact hm,?_⟩
    dsimp only;rw [em,hsn,if_pos rfl];refine aP.same (Nat.zero_le _) (by simp [aZ,List.lookup,SV.aC,SV.ok,SV.ay]) (Jv st M _ _) (fun y hy=> ?_)
    simp only [List.mem_cons,List.not_mem_nil,or_false] at hy;rcases hy with rfl | rfl | rfl | rfl <;> rfl
   | false=>
    rw [hcv] at cC hsn;refine SW.g1 [0,1,2,4,5,6,7,8,10,11,12,13,27,34,36,42] mixed af cC ?_;refine SW.ak rfl ?_;generalize qq st xs=R at hRl hsn ⊢;refine SW.g0 [0,1,2,4,5,6,7,8,10,11,12,13,27,34,36,42] mixed af ?_;refine ⟨⟨xs++[x],q1,q2⟩,fun n=>if n=22 then 25 else n,by show iV _ ((xs++[x]).map (·.1))<_;rw [em];exact hm,?_⟩
    dsimp only;rw [em,hsn,if_neg (by decide)]
    exact aP.mk (And.intro (tu R v) (xK R v))
theorem qt (l:List ag)(hl:l.length≤80)(hd:nV l)(st:aB)(d:Dt)(k:Nat):aG Tryz.prog final_Waits.f [ops l,.agg st.cells,.agg d.cells] [] k 0 (jW l st d) []:=(AE l hl hd st d).sc (by unfold jW;split <;> rfl) k
end
section
attribute [local irreducible] SW RW aG SC ai aq
theorem Ge (n:Int):Go.Sl.Pure Tryz.prog cmp_isNaN_uint64.f [.d (.int .u64 n)] (bl false):=by
 refine cmp_isNaN_uint64.enter (by first | rfl | simp [SV.ok,SV.ay]) (by first | rfl | simp [Hp.ok,Ob.ok,SV.ok,SV.ay,aB.aj]) (by simp) ?_
 dsimp only [cmp_isNaN_uint64.s,Co.M,Co.G,Co.J,Co.H,Co.N,Co.F,Co.C,Co.Z,Co.B,Co.b8,Co.ax,Co.bC,Co.i6,Co.z8,Co.bF];have e1:(n != n)=false:=bne_self_eq_false n
 (repeat (first | refine SW.seq ?_ | refine SW.block ?_ | refine SW.g0 [0,2] mixed (e1) ?_ | refine SW.skip ?_ | refine SW.exit ?_ | refine SW.ret ?_ | refine SW.ak rfl ?_ | refine SW.ah rfl ?_))
 exact End.mk [] (h4:=⟨rfl,rfl⟩)
theorem uW (n:Int)(k:Nat):aG Tryz.prog cmp_isNaN_uint64.f [.d (.int .u64 n)] [] k 0 (.d (.bool false)) []:=(Ge n).sc rfl k
theorem Gf (a b:Int):Go.Sl.Pure Tryz.prog cmp_Compare_uint64.f [.d (.int .u64 a),.d (.int .u64 b)] (i64 (eX a b)):=by
 refine cmp_Compare_uint64.enter (by first | rfl | simp [SV.ok,SV.ay]) (by first | rfl | simp [Hp.ok,Ob.ok,SV.ok,SV.ay,aB.aj]) (by simp) ?_
 dsimp only [cmp_Compare_uint64.s,Co.M,Co.G,Co.J,Co.H,Co.N,Co.F,Co.C,Co.Z,Co.B,Co.b8,Co.ax,Co.bC,Co.i6,Co.z8,Co.bF];rcases Int.lt_trichotomy a b with h | h | h
 ·have e1:decide (a<b)=true:=by simp [h]
  have e2:eX a b= -1:=by simp [eX,h]
  (repeat (first | refine SW.seq ?_ | refine SW.block ?_ | (refine SW.bM [0,1,4,5,6,11,12,13,16,19] mixed ?_;(repeat (first | refine RW.ro (e1) (h:= ?_) | refine RW.skip (h:= ?_) | refine RW.op (e1) (h:= ?_) | refine RW.di (e1) (h:= ?_) | refine RW.aU (h:= ?_) | (refine RW.aM (h:= ?_);(first | refine ai.mk (e1) (hc:=uW _ _) (h:= ?_)))));refine RW.nil ⟨by kernel_rfl,aq.mk (h:= ?_)⟩) | refine SW.skip ?_ | refine SW.exit ?_ | refine SW.ret ?_ | refine SW.ak rfl ?_ | refine SW.ah rfl ?_))
  exact End.mk [] (h4:=⟨by rw [e2];rfl,rfl⟩)
 ·have e1:decide (a<b)=false:=by simp [h]
  have e3:decide (a>b)=false:=by simp [h]
  have e2:eX a b=0:=by simp [eX,h]
  (repeat (first | refine SW.seq ?_ | refine SW.block ?_ | (refine SW.bM [0,1,4,5,6,11,12,13,16,19] mixed ?_;(repeat (first | refine RW.ro (And.intro (e1) (e3)) (h:= ?_) | refine RW.skip (h:= ?_) | refine RW.op (And.intro (e1) (e3)) (h:= ?_) | refine RW.di (And.intro (e1) (e3)) (h:= ?_) | refine RW.aU (h:= ?_) | (refine RW.aM (h:= ?_);(first | refine ai.mk (And.intro (e1) (e3)) (hc:=uW _ _) (h:= ?_)))));refine RW.nil ⟨by kernel_rfl,aq.mk (h:= ?_)⟩) | refine SW.skip ?_ | refine SW.exit ?_ | refine SW.ret ?_ | refine SW.ak rfl ?_ | refine SW.ah rfl ?_))
  exact End.mk [] (h4:=⟨by rw [e2];rfl,rfl⟩)
 ·have e1:decide (a<b)=false:=by simp;omega
  have e3:decide (a>b)=true:=by simp [h]
  have e2:eX a b=1:=by unfold eX;rw [if_neg (by omega),if_pos h]
  (repeat (first | refine SW.seq ?_ | refine SW.block ?_ | (refine SW.bM [0,1,4,5,6,11,12,13,16,19] mixed ?_;(repeat (first | refine RW.ro (And.intro (e1) (e3)) (h:= ?_) | refine RW.skip (h:= ?_) | refine RW.op (And.intro (e1) (e3)) (h:= ?_) | refine RW.di (And.intro (e1) (e3)) (h:= ?_) | refine RW.aU (h:= ?_) | (refine RW.aM (h:= ?_);(first | refine ai.mk (And.intro (e1) (e3)) (hc:=uW _ _) (h:= ?_)))));refine RW.nil ⟨by kernel_rfl,aq.mk (h:= ?_)⟩) | refine SW.skip ?_ | refine SW.exit ?_ | refine SW.ret ?_ | refine SW.ak rfl ?_ | refine SW.ah rfl ?_))
  exact End.mk [] (h4:=⟨by rw [e2];rfl,rfl⟩)
theorem Gg (a b:Int)(k:Nat):aG Tryz.prog cmp_Compare_uint64.f [.d (.int .u64 a),.d (.int .u64 b)] [] k 0 (.d (.int .i64 (eX a b))) []:=(Gf a b).sc rfl k
def Jw (a b c:Int):Int:=if a=0 then (if b=0 then c else b) else a
theorem K6 (a b c:Int):Go.Sl.Pure Tryz.prog cmp_Or_int.f [.d (.sl 3 [.int .i64 a,.int .i64 b,.int .i64 c])] (i64 (Jw a b c)):=by
 refine cmp_Or_int.enter (by first | rfl | simp [SV.ok,SV.ay]) (by first | rfl | simp [Hp.ok,Ob.ok,SV.ok,SV.ay,aB.aj]) (by simp) ?_
 dsimp only [cmp_Or_int.s,Co.M,Co.G,Co.J,Co.H,Co.N,Co.F,Co.C,Co.Z,Co.B,Co.b8,Co.ax,Co.bC,Co.i6,Co.z8,Co.bF]
 (repeat (first | refine SW.seq ?_ | refine SW.block ?_ | refine SW.g0 [0,2,3,5,6,7,8,9,14] mixed af ?_ | refine SW.skip ?_ | refine SW.exit ?_ | refine SW.ret ?_ | refine SW.ak rfl ?_ | refine SW.ah rfl ?_))
 refine SW.jN (α:={i:Nat // i≤3∧(1≤i→a=0)∧(2≤i→b=0)∧(3≤i→c=0)}) (fun i=>⟨[(8,i64 i.1),(6,.d (.sl 3 [.int .i64 a,.int .i64 b,.int .i64 c])),(7,i64 3),(3,i64 0)],[],0⟩) (fun i=>3 - i.1) ⟨0,by omega⟩ id af (round:= ?_)
 rintro ⟨i,hi,ha,hb,hc⟩
 match i,hi,ha,hb,hc with
 | 0,_,_,_,_=>
  rcases h1:(a != 0) with _ | _
  ·(repeat (first | refine SW.seq ?_ | refine SW.block ?_ | refine SW.g0 [0,2,3,5,6,7,8,9,14] mixed (h1) ?_ | refine SW.skip ?_ | refine SW.exit ?_ | refine SW.ret ?_ | refine SW.ak rfl ?_ | refine SW.ah rfl ?_))
   exact Next.mk ⟨1,by omega,fun _=>by simpa using h1,by omega⟩ id af
  ·(repeat (first | refine SW.seq ?_ | refine SW.block ?_ | refine SW.g0 [0,2,3,5,6,7,8,9,14] mixed (h1) ?_ | refine SW.skip ?_ | refine SW.exit ?_ | refine SW.ret ?_ | refine SW.ak rfl ?_ | refine SW.ah rfl ?_))
   exact End.mk [] (h4:=⟨by simp at h1;unfold Jw;rw [if_neg h1];rfl,rfl⟩)
 | 1,_,ha,_,_=>
  rcases h1:(b != 0) with _ | _
  ·(repeat (first | refine SW.seq ?_ | refine SW.block ?_ | refine SW.g0 [0,2,3,5,6,7,8,9,14] mixed (h1) ?_ | refine SW.skip ?_ | refine SW.exit ?_ | refine SW.ret ?_ | refine SW.ak rfl ?_ | refine SW.ah rfl ?_))
   exact Next.mk ⟨2,by omega,fun _=>ha (by omega),fun _=>by simpa using h1,by omega⟩ id af
  ·(repeat (first | refine SW.seq ?_ | refine SW.block ?_ | refine SW.g0 [0,2,3,5,6,7,8,9,14] mixed (h1) ?_ | refine SW.skip ?_ | refine SW.exit ?_ | refine SW.ret ?_ | refine SW.ak rfl ?_ | refine SW.ah rfl ?_))
   exact End.mk [] (h4:=⟨by simp at h1;unfold Jw;rw [if_pos (ha (by omega)),if_neg h1];rfl,rfl⟩)
 | 2,_,ha,hb,_=>
  rcases h1:(c != 0) with _ | _
  ·(repeat (first | refine SW.seq ?_ | refine SW.block ?_ | refine SW.g0 [0,2,3,5,6,7,8,9,14] mixed (h1) ?_ | refine SW.skip ?_ | refine SW.exit ?_ | refine SW.ret ?_ | refine SW.ak rfl ?_ | refine SW.ah rfl ?_))
   exact Next.mk ⟨3,by omega,fun _=>ha (by omega),fun _=>hb (by omega),fun _=>by simpa using h1⟩ id af
  ·(repeat (first | refine SW.seq ?_ | refine SW.block ?_ | refine SW.g0 [0,2,3,5,6,7,8,9,14] mixed (h1) ?_ | refine SW.skip ?_ | refine SW.exit ?_ | refine SW.ret ?_ | refine SW.ak rfl ?_ | refine SW.ah rfl ?_))
   exact End.mk [] (h4:=⟨by unfold Jw;rw [if_pos (ha (by omega)),if_pos (hb (by omega))];rfl,rfl⟩)
 | 3,_,ha,hb,hc=>
  (repeat (first | refine SW.seq ?_ | refine SW.block ?_ | refine SW.g0 [0,2,3,5,6,7,8,9,14] mixed af ?_ | refine SW.skip ?_ | refine SW.exit ?_ | refine SW.ret ?_ | refine SW.ak rfl ?_ | refine SW.ah rfl ?_))
  exact End.mk [] (h4:=⟨by unfold Jw;rw [if_pos (ha (by omega)),if_pos (hb (by omega)),hc (by omega)];rfl,rfl⟩)
theorem K7 (a b c:Int)(k:Nat):aG Tryz.prog cmp_Or_int.f [.d (.sl 3 [.int .i64 a,.int .i64 b,.int .i64 c])] [] k 0 (.d (.int .i64 (Jw a b c))) []:=(K6 a b c).sc rfl k
theorem AF:∀ (x y z a b c:SV),cA (cA (cA [x,y,z] 0 [a]) 1 [b]) 2 [c]=[a,b,c]:=fun _ _ _ _ _ _=>rfl
theorem IG (a b:ag):Jw (eX a.time b.time) (eX a.dot.r b.dot.r) (eX a.dot.n b.dot.n)=yw a b:=by
  unfold yw Jw eX
  by_cases h1:a.lt b=true
  · rw [if_pos h1]
    rw [ag.lt_iff] at h1
    repeat' split
    all_goals omega
  · by_cases h2:b.lt a=true
    · rw [if_neg h1,if_pos h2]
      rw [ag.lt_iff] at h1 h2
      repeat' split
      all_goals omega
    · rw [if_neg h1,if_neg h2]
      rw [ag.lt_iff] at h1 h2
      repeat' split
      all_goals omega
theorem zm (a b:ag):Go.Sl.Pure Tryz.prog order_Compare.f [.agg a.cells,.agg b.cells] (i64 (yw a b)):=by
 rw [← IG];refine order_Compare.enter (by first | rfl | simp [SV.ok,SV.ay]) (by first | rfl | simp [Hp.ok,Ob.ok,SV.ok,SV.ay,aB.aj]) (by simp) ?_
 dsimp only [order_Compare.s,Co.M,Co.G,Co.J,Co.H,Co.N,Co.F,Co.C,Co.Z,Co.B,Co.b8,Co.ax,Co.bC,Co.i6,Co.z8,Co.bF]
 (repeat (first | refine SW.seq ?_ | refine SW.block ?_ | (refine SW.bM [0,1,2,3,4] mixed ?_;(repeat (first | refine RW.ro (AF) (h:= ?_) | refine RW.skip (h:= ?_) | refine RW.op (AF) (h:= ?_) | refine RW.di (AF) (h:= ?_) | refine RW.aU (h:= ?_) | (refine RW.aM (h:= ?_);(first | refine ai.mk (AF) (hc:=Gg _ _ _) (h:= ?_) | refine ai.mk (AF) (hc:=Bn _ _ _) (h:= ?_) | refine ai.mk (AF) (hc:=yU _ _ _) (h:= ?_) | refine ai.mk (AF) (hc:=K7 _ _ _ _) (h:= ?_)))));refine RW.nil ⟨by kernel_rfl,aq.mk (h:= ?_)⟩) | refine SW.skip ?_ | refine SW.exit ?_ | refine SW.ret ?_ | refine SW.ak rfl ?_ | refine SW.ah rfl ?_))
 exact End.mk [] (h4:=⟨rfl,rfl⟩)
theorem zn (a b:ag)(k:Nat):aG Tryz.prog order_Compare.f [.agg a.cells,.agg b.cells] [] k 0 (.d (.int .i64 (yw a b))) []:=(zm a b).sc rfl k
end
section
attribute [local irreducible] SW RW aG SC ai aq jQ zc
noncomputable def oM (S:Sh)(o:ag)(e:Dt):Bool:=decide ((S.op e).aI=o.aI) && (S.good e && decide (yw (S.op e) o<0))
abbrev iH (S:Sh)(X:Ix)(st:aB)(K:KM)(o:ag):Hp:=(14,.box 43 o.cells)::(13,.box 131 [.ptr 0 0])::fH S X st K
theorem Jx (S:Sh)(X:Ix)(st:aB)(K:KM)(o:ag){k:Nat}(hk:15≤k):(iH S X st K o).ok (fun n=>decide (n<k))=true:=
 an (by simp;omega) (by simp [Ob.ok,ag.aj]) (an (by simp;omega) (by simp [Ob.ok,SV.ay,SV.ok];omega) (sQ S X st K (by omega)))
theorem MH (S:Sh)(X:Ix)(st:aB)(K:KM)(o:ag):∀ i,i<15→lk (iH S X st K o) i≠none:=fun i hi=>by
 match i,hi with
 | 0,_ | 1,_ | 2,_ | 3,_ | 4,_ | 5,_ | 6,_ | 7,_ | 8,_ | 9,_ | 10,_ | 11,_ | 12,_ | 13,_ | 14,_=>simp [aa]
abbrev nF:Sn:=⟨6,7,8,9,10,11,12⟩
theorem MI {l:List ag}{S:Sh}(h:bP l S)(hs:ji S)(d:Dt)(k:Nat):aG Tryz.prog shape_Shape_Op.f [.ptr 6 0,.agg d.cells] (fT S) k 0 (.dw [.agg (S.op d).cells,bl (MM.has S.ops d)]) (fT S):=
 S.at_ (xx S hs d) (fun ρ=>by simp [SV.aT,SV.aC,Dt.av]) (fun ρ=>by simp [SV.aT,SV.aC,ag.av]) nF (by unfold Sn.ok Sn.nl;decide) k
theorem K8 {l:List ag}{S:Sh}(h:bP l S)(hs:ji S)(d:Dt)(k:Nat):aG Tryz.prog shape_Shape_Good.f [.ptr 6 0,.agg d.cells] (fT S) k 0 (bl (S.good d)) (fT S):=yP S h.base.s4 hs d nF (by unfold Sn.ok Sn.nl;decide) k
set_option maxHeartbeats 16000000 in
theorem Gh {l:List ag}{S:Sh}(h:bP l S)(hl:l.length≤80)(hs:ji S)(st:aB)(K:KM)(hK:K.ok (eB (iI st) h.X.bU 10))(o:ag)(e:Dt):
  SB Tryz.prog final_Outcomes_1_1.f [.agg e.cells,.ptr 13 0,.ptr 14 0] (iH S h.X st K o) 15 0 fun r F=>r=bl (oM S o e && !eB (iI st) h.X.bU 10 e)∧F=iH S h.X st (if oM S o e then n9 (iI st) h.X.bU 10 K e else K) o:=by
 refine final_Outcomes_1_1.enter (by simp [SV.ay,SV.ok,Dt.aj]) (Jx S _ st K o (Nat.le_refl 15)) (by simp) ?_
 dsimp only [final_Outcomes_1_1.s,Co.M,Co.G,Co.J,Co.H,Co.N,Co.F,Co.C,Co.Z,Co.B,Co.b8,Co.ax,Co.bC,Co.i6,Co.z8,Co.bF];have a0:=FY st 6 2 1;have al:(0+1≤(sP st 6 2 1).length)=True:=eq_true (by rw [zi];decide)
 have cO:=MI h hs e;have cG:=K8 h hs e;have cF:=uT (uU S h.X (h.small hl) st h.X.uR h.lvl 10 h.oL (h.BE hl) 10 e K (h.oL e) hK);have cC:=zn (S.op e) o;have hah:oM S o e=(decide ((S.op e).aI=o.aI) && (S.good e && decide (yw (S.op e) o<0))):=rfl;rw [hah];clear hah;generalize n9 (iI st) h.X.bU 10 K e=K2 at cF ⊢;generalize eB (iI st) h.X.bU 10 e=bf at cF ⊢;generalize S.good e=bg at cG ⊢;generalize MM.has S.ops e=bh at cO;obtain ⟨q,hq⟩:∃ q,S.op e=q:=⟨_,rfl⟩;rw [hq] at cO cC ⊢;generalize yw q o=z at cC ⊢;have o12:List.take 2 (List.drop 12 o.cells)=o.aI.cells:=rfl;have q12:List.take 2 (List.drop 12 q.cells)=q.aI.cells:=rfl;have hokI:∀ K',(iH S h.X st K' o).ok (fun n=>decide (n<15+0))=true:=fun K'=>Jx S _ st K' o (Nat.le_refl 15)
 dsimp only [iH,fH,fT];refine SW.seq ?_;refine SW.g0 [0,1,2,3,4,5] mixed af ?_;refine SW.seq ?_;refine SW.g1 [0,1,2,3,4,5] mixed (And.intro (a0) (al)) cO ?_;refine SW.seq ?_;cases h1:decide (q.aI=o.aI) with
 | false=>
  refine SW.g0 [0,1,2,3,4,5] mixed (And.intro (o12) (And.intro (q12) (h1))) ?_;refine SW.ret ?_;exact End.mk (iH S h.X st K o) (h4:=⟨rfl,rfl⟩) (h6:=hokI K)
 | true=>
  cases bg with
  | false=>
   refine SW.g1 [0,1,2,3,4,5] mixed (And.intro (a0) (And.intro (al) (And.intro (o12) (And.intro (q12) (h1))))) cG ?_;refine SW.ret ?_;exact End.mk (iH S h.X st K o) (h4:=⟨rfl,rfl⟩) (h6:=hokI K)
  | true=>
   cases h3:decide (z<0) with
   | false=>
    refine SW.g2 [0,1,2,3,4,5] mixed (And.intro (a0) (And.intro (al) (And.intro (o12) (And.intro (q12) (And.intro (h1) (h3)))))) cG cC ?_;refine SW.ret ?_;exact End.mk (iH S h.X st K o) (h4:=⟨rfl,rfl⟩) (h6:=hokI K)
   | true=>
    refine SW.g4 [0,1,2,3,4,5] mixed (And.intro (a0) (And.intro (al) (And.intro (o12) (And.intro (q12) (And.intro (h1) (h3)))))) cG cC cF trivial ?_;refine SW.ret ?_;exact End.mk (iH S h.X st K2 o) (h4:=⟨by cases bf <;> rfl,rfl⟩) (h6:=hokI K2)
end
end Go.Proofs.YtaelhkkjgfobhaaGreat
