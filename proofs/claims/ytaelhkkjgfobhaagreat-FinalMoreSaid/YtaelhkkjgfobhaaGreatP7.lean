/-
 Final: whose verdicts are final.
-/
import Derived.Test.YtaelhkkjgfobhaaGreatP6
import Derived.Test.YtaelhkkjgfobhaaGreatPZ
import Derived.Test.YtaelhkkjgfobhaaGreatPE
import Derived.Test.YtaelhkkjgfobhaaGreatPV
import Derived.Test.YtaelhkkjgfobhaaGreatP5
set_option linter.unusedSectionVars false
set_option linter.unusedVariables false
set_option linter.unusedSimpArgs false
namespace Go.Proofs.YtaelhkkjgfobhaaGreat
open Go.Sl Go.Proofs
section
attribute [local irreducible] SW RW aF SC aj ak jl wN
noncomputable def eB (l:List ag)(d:Dt):List Dt:=if gU l d then (tC l).filter (G6 l d) else []
noncomputable def mQ (l:List ag)(st:av)(d:Dt):Bool:=dS (gJ st) (eB l) 10 d
abbrev fJ (l:List ag):List Dt:=Dt.set (l.map (·.dot))
section
variable {l:List ag} {S:Sh} (h:bI l S)
include h
theorem bI.su:h.X.bN=eB l:=by
 funext d
 unfold Ix.bN eB;rw [h.Ju,h.AH];cases hg:gU l d with
 | false=>rfl
 | true=>
  have hg':S.good d=true:=by rw [h.AH];exact hg
  simp only [if_true];exact h.Mg hg'
theorem bI.lvl (d t:Dt)(ht:t∈h.X.bN d):h.X.tD t<h.X.tD d:=by
 unfold Ix.bN at ht;rw [h.Ju] at ht;cases hg:S.good d with
 | false=>rw [hg] at ht;cases ht
 | true=>
  rw [hg,if_pos rfl,Dt.mem_set,h.Me hg,h.Lf hg] at ht;obtain ⟨h1,_,_,_,h5,_,_⟩:=h.hit hg ht;unfold Ix.tD;rw [h.EM h1,h.EM hg];exact h5
theorem bI.nq (d:Dt):h.X.tD d<10:=by
 cases hg:S.good d with
 | true=>
  unfold Ix.tD;rw [h.EM hg];have:=h.AE (S.op d);omega
 | false=>unfold Ix.tD;rw [h.HX hg];decide
theorem bI.AM (hl:l.length≤80)(d:Dt):(h.X.bN d).length<1000000000:=by
 unfold Ix.bN
 split
 ·exact h.sn hl _
 ·decide
end
theorem KM.yJ (fin:Dt→Bool):(KM.mk [] 0).ok fin:=fun d=> .inl rfl
theorem JE (S:Sh)(X:Ix)(st:av)(K K':KM)(q:Nat→Bool)(h:(yu S X st K).ok q=true):(yu S X st K').ok q=true:=by
 simp only [Hp.ok,List.all_cons,Ob.ok,mA] at h ⊢;exact h
theorem MI {l:List ag}{S:Sh}(h:bI l S)(hl:l.length≤80)(st:av):G9 Tryz.prog final_asker_final.f [.ptr 18 0] [] (yu S h.X st) (mP (gJ st) h.X.bN 10) (dS (gJ st) h.X.bN 10) 0 (KM.ok (dS (gJ st) h.X.bN 10)) where
 nd K:=by simp
 nm K K':=rfl
 step K d hK:=(oy h.lvl h.nq 10 K d (h.nq d) hK).1
 ok K d q hq:=JE S _ st K _ q hq
 call K d k hK _:=by
  have:=SB.nI J3 (tG S h.X (h.small hl) st h.X.tD h.lvl 10 h.nq (h.AM hl) 10 d K (h.nq d) hK) (by decide) (fun i hi=>H6 S h.X st K i hi) k
  rw [AK,AK] at this
  simpa [SV.aK,SV.aB,eN,Dt.ax] using this
 a1 K q hq:=by
  simp only [Hp.ok,List.all_cons,Bool.and_eq_true] at hq;exact ⟨by simp [SV.aA,SV.ok,hq.1.1],rfl⟩
 cl K:=sr S _ st K _ fun n hn=>by
  simp only [List.mem_cons,List.not_mem_nil,or_false] at hn;rcases hn with rfl | rfl | rfl | rfl | rfl | rfl | rfl | rfl | rfl | rfl | rfl | rfl | rfl <;> rfl
abbrev AN (S:Sh):Hp:=[(12,.box 117 [.ptr 4 0,.mp 9,.mp 10,.mp 11]),(9,.map (ai Dt.cells ov S.ops) S.co),(10,.map (ai Dt.cells iv S.fh) S.ca),(11,.map (ai Dt.cells dv S.kP) S.cl),(4,.box 166 [.mp 2,.mp 3]),(2,.map (ai Dt.cells cv S.tr) S.ct),(3,.map (ai Dt.cells ov S.md) S.cm)]
theorem Hf (S:Sh)(X:Ix)(st:av)(K:KM):HSub (AN S) (yu S X st K):=by
 refine HSub.cons ?_ (HSub.cons ?_ (HSub.cons ?_ (HSub.cons ?_ (HSub.cons ?_ (HSub.cons ?_ (HSub.cons ?_ (HSub.nil _))))))) <;> rfl
theorem Hg (S:Sh)(X:Ix)(st:av)(K:KM)(o:Ob):bM false (yu S X st K) (AN S) ((21,o)::AN S)=(21,o)::yu S X st K:=by
 simp only [bM,bS,bT,e_,eZ,dh,lk,List.lookup,Nat.reduceBEq,BEq.rfl,beq_self_eq_true,if_true,if_false,reduceIte,Nat.reduceEqDiff,Bool.false_eq_true,Option.isSome_some,Option.isSome_none]
theorem AO {l:List ag}{S:Sh}(h:bI l S)(hl:l.length≤80)(st:av)(K:KM):aF Tryz.prog shape_Shape_Dots.f [.ptr 12 0] (yu S h.X st K) 20 2 (.gs 21 (fJ l).length) ((21,mL (fJ l) 21)::yu S h.X st K):=by
 have h1:=SB.nI [12,9,10,11,4,2,3] (vm S h.base.ops.wf (by have:=h.gY;omega)) (by decide) (fun i hi=>S.Ap i hi) 20
 rw [h.wm] at h1;show aF _ _ _ _ _ _ (.gs 21 (Dt.set (l.map (·.dot))).length) ((21,mL (Dt.set (l.map (·.dot))) 21)::_)
 generalize Dt.set (l.map (·.dot))=D at h1 ⊢
 have e1:S.h0.aB (eN [12,9,10,11,4,2,3] 20)=AN S:=by simp [Hp.aB,Ob.aB,SV.aK,SV.aB,eN,bz,bV,dI,dg]
 have e2:Hp.aB (eN [12,9,10,11,4,2,3] 20) ((8,mL D 8)::S.h0)=(21,mL D 21)::AN S:=by
  rw [← e1];simp [Hp.aB,Ob.aB,eN,SV.fP]
 rw [e1,e2] at h1;have h2:aF Tryz.prog shape_Shape_Dots.f [.ptr 12 0] (AN S) 20 2 (.gs 21 D.length) ((21,mL D 21)::AN S):=h1;unfold aF at h2 ⊢;have h3:=SC.frame h2 (Hf S h.X st K);refine SC.mono h3 fun r F hh=> ?_
 obtain ⟨F1,⟨h4,h5⟩,h6⟩:=hh;rw [h5,Hg] at h6;exact ⟨h4,h6⟩
theorem E5 {l:List ag}{S:Sh}(h:bI l S)(hl:l.length≤80)(st:av):SC Tryz.prog final_asker_some.f [.ptr 18 0,.fn (.func final_asker_final.f) [.ptr 18 0] []] (yu S h.X st ⟨[],0⟩) 19 (3+((fJ l).length*(1+0)+(fJ l).length*(1+0+1))) fun r F=>∃ K',r= .gs 21 ((fJ l).filter (mQ l st)).length∧F=(21,mL ((fJ l).filter (mQ l st)) 21)::yu S h.X st K':=by
 have hds:(fJ l).length≤80:=h.jP hl;have kU:=(MI h hl st).cl ⟨[],0⟩;have:=(AJ (MI h hl st) ⟨[],0⟩ (KM.yJ _) 18 12 16 17 st (fJ l) (by omega) 19 (sr S _ st _ _ (by decide)) rfl (AO h hl st _) (fun K n hn=>fz (by simp;omega))).here (fun n=>(lk (yu S h.X st ⟨[],0⟩) n).isSome) (fun n hn e=>by rw [e] at hn;cases hn) (by simp [SV.aA,SV.ok,aa]) kU (by
  rintro r F ⟨K',_,rfl,rfl⟩ _ _;refine ⟨by simp [SV.ok];right;omega,ah (by simp;right;omega) (SV.aT _) (sr S _ st _ _ fun n hn=> ?_)⟩
  rw [Bool.or_eq_true];left;simp only [List.mem_cons,List.not_mem_nil,or_false] at hn;rcases hn with rfl | rfl | rfl | rfl | rfl | rfl | rfl | rfl | rfl | rfl | rfl | rfl | rfl <;> rfl)
 refine SC.mono this ?_;rintro r F ⟨K',_,rfl,rfl⟩;have e:dS (gJ st) h.X.bN 10=mQ l st:=by rw [h.su];rfl
 rw [e];exact ⟨K',rfl,rfl⟩
end
section
attribute [local irreducible] SW RW aF SC aj ak jl wN
abbrev MJ (S:Sh):Hp:=[(13,.box 117 [.ptr 5 0,.mp 10,.mp 11,.mp 12]),(10,.map (ai Dt.cells ov S.ops) S.co),(11,.map (ai Dt.cells iv S.fh) S.ca),(12,.map (ai Dt.cells dv S.kP) S.cl),(5,.box 166 [.mp 3,.mp 4]),(3,.map (ai Dt.cells cv S.tr) S.ct),(4,.map (ai Dt.cells ov S.md) S.cm)]
abbrev Nd:Sn:=⟨13,10,11,12,5,3,4⟩
theorem Mk {l:List ag}{S:Sh}(h:bI l S)(hs:iD S)(d:Dt)(k:Nat):aF Tryz.prog shape_Shape_Op.f [.ptr 13 0,.agg d.cells] (MJ S) k 0 (.dU [.agg (S.op d).cells,bl (MM.has S.ops d)]) (MJ S):=
 S.at_ (v8 S hs d) (fun ρ=>by simp [SV.aK,SV.aB,Dt.ax]) (fun ρ=>by simp [SV.aK,SV.aB,ag.ax]) Nd (by unfold Sn.ok Sn.nl;decide) k
abbrev Ml (S:Sh)(X:Ix)(st:av)(K:KM)(M:IM):Hp:=(21,.map (ai Dt.cells iv M.m) M.c)::Mj S X st K
theorem Hh {l:List ag}{S:Sh}(h:bI l S)(hl:l.length≤80)(st:av)(K:KM)(d:Dt)(k:Nat):aF Tryz.prog final_asker_waits.f [.ptr 19 0,.agg d.cells,.mp 21] (Ml S h.X st K ⟨[],0⟩) k 0 (.dU []) (Ml S h.X st K (o_ h.X.bN 10 ⟨[],0⟩ d)):=by
 have:=SB.nI (MH++[21]) (EZ S h.X (h.small hl) st K h.X.tD h.lvl (h.AM hl) 10 d ⟨[],0⟩ (h.nq d)) (by decide) (fun i hi=>H9 S h.X st K _ i (by simpa using hi)) k
 have e:∀ M:IM,(wH S h.X st K M).aB (eN (MH++[21]) k)=Ml S h.X st K M:=fun M=>by
  simp [Hp.aB,Ob.aB,SV.aK,SV.aB,eN,kC,jm,bz,dX,bV,dI,dg]
 rw [e,e] at this
 simpa [SV.aK,SV.aB,eN,Dt.ax] using this
noncomputable def cA (l:List ag)(st:av)(d:Dt):List Dt:= @List.filter _ (fun e=> @decide (Reach (eB l) d e) (Classical.propDecidable _) && !st.aU e) (fJ l)
theorem lN {l:List ag}{st:av}{d e:Dt}:e∈cA l st d↔e∈fJ l∧Reach (eB l) d e∧st.aU e=false:=by
 unfold cA;rw [List.mem_filter];simp
theorem wF {l:List ag}{d:Dt}:d∈fJ l↔(bB l d).isSome=true:=by
 rw [Dt.mem_set,List.mem_map,mu]
theorem yw {l:List ag}{d:Dt}(h:gU l d=true):d∈fJ l:=by
 rw [wF];unfold gU at h;cases hf:bB l d with
 | none=>rw [hf] at h;cases h
 | some o=>rfl
theorem tH {l:List ag}{d t:Dt}(h:t∈eB l d):gU l t=true:=by
 unfold eB at h
 split at h
 ·exact vi.1 (List.mem_filter.1 h).1
 ·cases h
theorem qt {l:List ag}{d e:Dt}(hd:d∈fJ l)(h:Reach (eB l) d e):e∈fJ l:=by
 induction h with
 | refl=>exact hd
 | step ht _ ih=>exact ih (yw (tH ht))
theorem vq {l:List ag}{st:av}{d:Dt}(hd:d∈fJ l){R:List Dt}(hR:∀ e,e∈R↔Reach (eB l) d e∧st.aU e=false):Dt.set R=cA l st d:=
 Dt.ij (Dt.i_ _) ((Dt.i_ _).filter _) fun v=>by
  rw [Dt.mem_set,hR];show _↔v∈cA l st d;rw [lN];exact ⟨fun h=>⟨qt hd h.1,h⟩,fun h=>h.2⟩
noncomputable def jx (l:List ag)(st:av)(d:Dt):SV:=if (bB l d).isSome then .dU [aY (cA l st d),i64 0] else .dU [.d .aP,i64 7]
def pn (st:av)(xs:MM Dt Int):List Dt:=(xs.map (·.2.1)).filter fun e=> !st.aU e
theorem BT (st:av)(xs:MM Dt Int)(x:Nat×Dt×Int):pn st (xs++[x])=if st.aU x.2.1 then pn st xs else pn st xs++[x.2.1]:=by
 unfold pn;rw [List.map_append,List.filter_append];cases h:st.aU x.2.1 <;> simp [h]
theorem BU {M xs:MM Dt Int}{c:Nat}(hwf:MM.wf M c)(p1:∀ x,x∈xs→x∈M)(hall:∀ e,e∈ai Dt.cells iv M→(xs.map (·.1)).contains e.1=true):∀ x,x∈xs↔x∈M:=fun x=>⟨p1 x,fun hx=>by
 have:=hall _ (List.mem_map.2 ⟨x,hx,rfl⟩);simp only [List.contains_iff_mem] at this;obtain ⟨z,hz,e⟩:=List.mem_map.1 this;rw [← MM.p_ hwf.times (p1 z hz) hx e];exact hz⟩
theorem zx {M xs:MM Dt Int}(p1:∀ x,x∈xs→x∈M)(p2:(xs.map (·.1)).Nodup){x:Nat×Dt×Int}(hx:x∈M)(hs:(xs.map (·.1)).contains x.1=false):(∀ z,z∈xs++[x]→z∈M)∧((xs++[x]).map (·.1)).Nodup∧x.1∉xs.map (·.1):=by
 have hxt:x.1∉xs.map (·.1):=fun h=>by
  have:(xs.map (·.1)).contains x.1=true:=by simpa only [List.contains_iff_mem] using h
  rw [this] at hs;cases hs
 refine ⟨fun z hz=> ?_,?_,hxt⟩
 ·rcases List.mem_append.1 hz with hz | hz
  ·exact p1 z hz
  ·rw [List.mem_singleton.1 hz];exact hx
 ·rw [List.map_append,List.nodup_append]
  refine ⟨p2,by simp,fun a ha b' hb'=> ?_⟩
  simp only [List.map_cons,List.map_nil,List.mem_singleton] at hb';intro e;exact hxt (by rw [← hb',← e];exact ha)
structure WI (M:IM)(xs:MM Dt Int):Prop where
 sub:∀ x,x∈xs→x∈M.m
 nd:(xs.map (·.1)).Nodup
abbrev wL (st:av)(M:IM)(seen:List Nat)(R:List Dt):Hp:=[(23,.iter (some 21) M.c seen M.c),(22,mL R 22),(21,.map (ai Dt.cells iv M.m) M.c),(0,.box 39 st.cells)]
theorem Ib (st:av)(M:IM)(seen:List Nat)(R:List Dt):(wL st M seen R).ok (fun n=>decide (n<24))=true:=
 ah (by decide) (G2 _ _ _ _ _ (by decide)) (ah (by decide) (SV.aT _) (ah (by decide) (bw _ _) (ah (by decide) (av.an _ _) rfl)))
set_option maxHeartbeats 8000000 in
theorem zy (l:List ag)(hl:l.length≤80)(hd:mM l)(st:av)(d:Dt):Go.Sl.Pure Tryz.prog final_Waits.f [ops l,.agg st.cells,.agg d.cells] (jx l st d):=by
 refine final_Waits.enter (by first | rfl | simp [SV.ok,SV.aA]) (by first | rfl | simp [Hp.ok,Ob.ok,SV.ok,SV.aA,av.an]) (by simp) ?_
 dsimp only [final_Waits.s,Co.M,Co.G,Co.J,Co.H,Co.N,Co.F,Co.C,Co.Z,Co.B,Co.b8,Co.ay,Co.bU,Co.i6,Co.z8,Co.cq];refine SW.seq ?_;refine SW.g0 [0,1,2,4,5,6,7,8,10,11,12,13,27,34,36,42] mixed af ?_;refine SW.seq (SW.tX ?_)
 (repeat (first | refine aW.op af (h:= ?_) | refine aW.d_ af (h:= ?_) | refine aW.skip (h:= ?_)))
 refine aW.bu (JD l hl hd st) (HSub.nil _) (h:= ?_);rintro _ _ ⟨S,h,rfl,rfl⟩;simp only [bM,bS,bT,e_,eZ,dh,lk,List.lookup,Nat.reduceBEq,BEq.rfl,beq_self_eq_true,if_true,if_false,reduceIte,Nat.reduceEqDiff,Bool.false_eq_true,Option.isSome_some,Option.isSome_none,Nat.reduceAdd]
 (repeat (first | refine aW.op af (h:= ?_) | refine aW.d_ af (h:= ?_) | refine aW.skip (h:= ?_)))
 refine aW.nil ?_;have cO:=Mk h (h.short hd) d;have hhas:MM.has S.ops d=(bB l d).isSome:=h.base.has d;rw [hhas] at cO;have b0:=ER st 13 17 18;have bl0:(0+1≤(rM st 13 17 18).length)=True:=eq_true (by rw [yp];decide)
 refine SW.seq (SW.seq ?_);refine SW.g1 [0,1,2,4,5,6,7,8,10,11,12,13,27,34,36,42] mixed (And.intro (b0) (bl0)) cO ?_;refine SW.seq ?_;cases hf:(bB l d).isSome with
 | false=>
  have e:jx l st d= .dU [.d .aP,i64 7]:=by unfold jx;rw [hf];rfl
  rw [e];refine SW.g0 [0,1,2,4,5,6,7,8,10,11,12,13,27,34,36,42] mixed af ?_;refine SW.au rfl (SW.seq ?_);refine SW.g0 [0,1,2,4,5,6,7,8,10,11,12,13,27,34,36,42] mixed af ?_;refine SW.ret ?_;exact End.mk [] (h4:=⟨rfl,rfl⟩)
 | true=>
  have e:jx l st d= .dU [aY (cA l st d),i64 0]:=by unfold jx;rw [hf];rfl
  rw [e];refine SW.g0 [0,1,2,4,5,6,7,8,10,11,12,13,27,34,36,42] mixed af ?_;refine SW.aq rfl (SW.skip ?_);refine SW.seq ?_;refine SW.g0 [0,1,2,4,5,6,7,8,10,11,12,13,27,34,36,42] mixed af ?_;refine SW.seq ?_;have cW:=Hh h hl st ⟨[],0⟩ d;have hMr:∀ e,(o_ h.X.bN 10 ⟨[],0⟩ d).get e>0↔Reach (eB l) d e:=fun e=>by
   rw [BR h.lvl (h.nq d),h.su]
  have hMg:=yq (dY:=h.X.bN) 10 ⟨[],0⟩ d IM.Lk;generalize o_ h.X.bN 10 ⟨[],0⟩ d=M at cW hMr hMg;have hdd:d∈fJ l:=wF.2 hf;have hMl:M.m.length≤80:=by
   have h1:=hMg.1.keys.length_le_of_subset (l₂:=fJ l) fun e he=>by
    rw [← MM.gD,hMg.has,hMr] at he;exact qt hdd he
   have h2:=h.jP hl;have h3:(MM.keys M.m).length=M.m.length:=by simp [MM.keys]
   have h4:(fJ l).length≤80:=h2;omega
  refine SW.g1 [0,1,2,4,5,6,7,8,10,11,12,13,27,34,36,42] mixed af cW ?_;refine SW.seq ?_;refine SW.g0 [0,1,2,4,5,6,7,8,10,11,12,13,27,34,36,42] mixed af ?_;refine SW.qL 12 37 2 rfl ?_;refine SW.seq (SW.seq ?_);refine SW.g0 [0,1,2,4,5,6,7,8,10,11,12,13,27,34,36,42] mixed af ?_;refine SW.block ?_;refine SW.qb (es:=fun _=>ai Dt.cells iv M.m) (c:=fun _=>M.c) (sY:=fun _=>23) (nm:=fun _=>21) (since:=fun _=>M.c) (Ae:=fun _=>M.c)
   (α:={xs:MM Dt Int // WI M xs})
   (fun p=>⟨[(34,.it 23),(12,.gs 22 (pn st p.1).length),(4,.ptr 0 0)],wL st M (p.1.map (·.1)) (pn st p.1),24⟩)
   (fun p=>g_ (ai Dt.cells iv M.m) (p.1.map (·.1))) ⟨[],by simp,by simp⟩ id (seen:=fun p=>p.1.map (·.1)) ?_ (fun p=>by simp [List.lookup]) (fun p=>by simp [aa]) (fun p=>by simp [aa]) (fun p=>by decide) (fun p e' he=> ?_) (fun p=>Nat.le_refl _) (fun p hall=> ?_) (fun p e' he hs=> ?_)
  ·refine aM.same (Nat.zero_le _) (by simp [aQ,List.lookup,SV.aB,SV.ok,SV.aA,pn]) (Ib st M _ _) (fun y hy=> ?_)
   simp only [List.mem_cons,List.not_mem_nil,or_false] at hy;rcases hy with rfl | rfl | rfl | rfl <;> rfl
  ·obtain ⟨x,hx,rfl⟩:=fc he
   exact hMg.1.old x hx
  ·obtain ⟨xs,p⟩:=p
   dsimp only at*;have hxs:=BU hMg.1 p.sub hall;have hR:∀ e,e∈pn st xs↔Reach (eB l) d e∧st.aU e=false:=fun e=>by
    unfold pn;rw [List.mem_filter,← hMr,← hMg.has,MM.gD];unfold MM.keys;simp only [List.mem_map,hxs,Bool.not_eq_true']
   have hRl:(pn st xs).length≤80:=by
    have h1:=List.length_filter_le (fun e=> !st.aU e) (xs.map (·.2.1))
    have h2:=p.nd.length_le_of_subset (l₂:=M.m.map (·.1)) fun n hn=>by
     obtain ⟨z,hz,rfl⟩:=List.mem_map.1 hn;exact List.mem_map.2 ⟨z,p.sub z hz,rfl⟩
    simp only [List.length_map] at h1 h2;unfold pn;omega
   have hset20:=vq hdd hR;rw [← hset20];generalize pn st xs=R at hRl ⊢;refine ⟨⟨[(12,.gs 22 R.length)],[(22,mL R 22)],24⟩,id,aM.same (Nat.zero_le _) (by simp [aQ,List.lookup,SV.aB,SV.ok,SV.aA]) (ah (by simp) (SV.aT _) rfl) (fun y hy=>by
    rw [List.mem_singleton] at hy;subst hy;rfl),?_⟩
   rw [if_pos rfl];refine SW.freeze 22 (R.flatMap Dt.ds) rfl rfl ?_;simp only [kZ,SV.jq,List.map_cons,List.map_nil,if_true,if_false,reduceIte,dh,Nat.reduceEqDiff];have cS:=Ay R (by omega)
   refine SW.seq ?_;refine SW.g1 [0,1,2,4,5,6,7,8,10,11,12,13,27,34,36,42] mixed af cS ?_;refine SW.ret ?_;exact End.mk [] (h4:=⟨rfl,rfl⟩)
  ·obtain ⟨xs,p⟩:=p
   dsimp only at*;obtain ⟨x,hx,rfl⟩:=fc he;dsimp only at hs;have g5:(xs.map (·.1)++[x.1]).getLast? =some x.1:=by simp
   have g6:=lp (kc:=Dt.cells) (vs:=iv) hMg.1.times hx;obtain ⟨q1,q2,_⟩:=zx p.sub p.nd hx hs;have em:(xs++[x]).map (·.1)=xs.map (·.1)++[x.1]:=by simp
   have hm:=lF he hs;have hsn:=BT st xs x;have hRl:(pn st xs).length≤80:=by
    have h1:=List.length_filter_le (fun e=> !st.aU e) (xs.map (·.2.1))
    have h2:=p.nd.length_le_of_subset (l₂:=M.m.map (·.1)) fun n hn=>by
     obtain ⟨z,hz,rfl⟩:=List.mem_map.1 hn;exact List.mem_map.2 ⟨z,p.sub z hz,rfl⟩
    simp only [List.length_map] at h1 h2;unfold pn;omega
   obtain ⟨v,hv⟩:∃ v,x.2.1=v:=⟨_,rfl⟩;rw [hv] at hsn;have cC:=qW st v;rw [iS];refine SW.block (SW.seq ?_);refine SW.g0 [0,1,2,4,5,6,7,8,10,11,12,13,27,34,36,42] mixed (And.intro (g5) (And.intro (g6) (hv))) ?_;refine SW.seq ?_;cases hcv:st.aU v with
   | true=>
    rw [hcv] at cC hsn;refine SW.g1 [0,1,2,4,5,6,7,8,10,11,12,13,27,34,36,42] mixed af cC ?_;refine SW.aq rfl (SW.skip ?_);refine ⟨⟨xs++[x],q1,q2⟩,id,by show g_ _ ((xs++[x]).map (·.1))<_;rw [em];exact hm,?_⟩
    dsimp only;rw [em,hsn,if_pos rfl];refine aM.same (Nat.zero_le _) (by simp [aQ,List.lookup,SV.aB,SV.ok,SV.aA]) (Ib st M _ _) (fun y hy=> ?_)
    simp only [List.mem_cons,List.not_mem_nil,or_false] at hy;rcases hy with rfl | rfl | rfl | rfl <;> rfl
   | false=>
    rw [hcv] at cC hsn;refine SW.g1 [0,1,2,4,5,6,7,8,10,11,12,13,27,34,36,42] mixed af cC ?_;refine SW.au rfl ?_;generalize pn st xs=R at hRl hsn ⊢;refine SW.g0 [0,1,2,4,5,6,7,8,10,11,12,13,27,34,36,42] mixed af ?_;refine ⟨⟨xs++[x],q1,q2⟩,fun n=>if n=22 then 25 else n,by show g_ _ ((xs++[x]).map (·.1))<_;rw [em];exact hm,?_⟩
    dsimp only;rw [em,hsn,if_neg (by decide)]
    exact aM.mk (And.intro (G5 R v) (Jy R v))
theorem pq (l:List ag)(hl:l.length≤80)(hd:mM l)(st:av)(d:Dt)(k:Nat):aF Tryz.prog final_Waits.f [ops l,.agg st.cells,.agg d.cells] [] k 0 (jx l st d) []:=(zy l hl hd st d).sc (by unfold jx;split <;> rfl) k
end
section
attribute [local irreducible] SW RW aF SC aj ak
theorem E6 (n:Int):Go.Sl.Pure Tryz.prog cmp_isNaN_uint64.f [.d (.int .u64 n)] (bl false):=by
 refine cmp_isNaN_uint64.enter (by first | rfl | simp [SV.ok,SV.aA]) (by first | rfl | simp [Hp.ok,Ob.ok,SV.ok,SV.aA,av.an]) (by simp) ?_
 dsimp only [cmp_isNaN_uint64.s,Co.M,Co.G,Co.J,Co.H,Co.N,Co.F,Co.C,Co.Z,Co.B,Co.b8,Co.ay,Co.bU,Co.i6,Co.z8,Co.cq];have e1:(n != n)=false:=bne_self_eq_false n
 (repeat (first | refine SW.seq ?_ | refine SW.block ?_ | refine SW.g0 [0,2] mixed (e1) ?_ | refine SW.skip ?_ | refine SW.exit ?_ | refine SW.ret ?_ | refine SW.au rfl ?_ | refine SW.aq rfl ?_))
 exact End.mk [] (h4:=⟨rfl,rfl⟩)
theorem tI (n:Int)(k:Nat):aF Tryz.prog cmp_isNaN_uint64.f [.d (.int .u64 n)] [] k 0 (.d (.bool false)) []:=(E6 n).sc rfl k
theorem E7 (a b:Int):Go.Sl.Pure Tryz.prog cmp_Compare_uint64.f [.d (.int .u64 a),.d (.int .u64 b)] (i64 (gl a b)):=by
 refine cmp_Compare_uint64.enter (by first | rfl | simp [SV.ok,SV.aA]) (by first | rfl | simp [Hp.ok,Ob.ok,SV.ok,SV.aA,av.an]) (by simp) ?_
 dsimp only [cmp_Compare_uint64.s,Co.M,Co.G,Co.J,Co.H,Co.N,Co.F,Co.C,Co.Z,Co.B,Co.b8,Co.ay,Co.bU,Co.i6,Co.z8,Co.cq];rcases Int.lt_trichotomy a b with h | h | h
 ·have e1:decide (a<b)=true:=by simp [h]
  have e2:gl a b= -1:=by simp [gl,h]
  (repeat (first | refine SW.seq ?_ | refine SW.block ?_ | (refine SW.dL [0,1,4,5,6,11,12,13,16,19] mixed ?_;(repeat (first | refine RW.ro (e1) (h:= ?_) | refine RW.skip (h:= ?_) | refine RW.op (e1) (h:= ?_) | refine RW.d_ (e1) (h:= ?_) | refine RW.bJ (h:= ?_) | (refine RW.bu (h:= ?_);(first | refine aj.mk (e1) (hc:=tI _ _) (h:= ?_)))));refine RW.nil ⟨by kernel_rfl,ak.mk (h:= ?_)⟩) | refine SW.skip ?_ | refine SW.exit ?_ | refine SW.ret ?_ | refine SW.au rfl ?_ | refine SW.aq rfl ?_))
  exact End.mk [] (h4:=⟨by rw [e2];rfl,rfl⟩)
 ·have e1:decide (a<b)=false:=by simp [h]
  have e3:decide (a>b)=false:=by simp [h]
  have e2:gl a b=0:=by simp [gl,h]
  (repeat (first | refine SW.seq ?_ | refine SW.block ?_ | (refine SW.dL [0,1,4,5,6,11,12,13,16,19] mixed ?_;(repeat (first | refine RW.ro (And.intro (e1) (e3)) (h:= ?_) | refine RW.skip (h:= ?_) | refine RW.op (And.intro (e1) (e3)) (h:= ?_) | refine RW.d_ (And.intro (e1) (e3)) (h:= ?_) | refine RW.bJ (h:= ?_) | (refine RW.bu (h:= ?_);(first | refine aj.mk (And.intro (e1) (e3)) (hc:=tI _ _) (h:= ?_)))));refine RW.nil ⟨by kernel_rfl,ak.mk (h:= ?_)⟩) | refine SW.skip ?_ | refine SW.exit ?_ | refine SW.ret ?_ | refine SW.au rfl ?_ | refine SW.aq rfl ?_))
  exact End.mk [] (h4:=⟨by rw [e2];rfl,rfl⟩)
 ·have e1:decide (a<b)=false:=by simp;omega
  have e3:decide (a>b)=true:=by simp [h]
  have e2:gl a b=1:=by unfold gl;rw [if_neg (by omega),if_pos h]
  (repeat (first | refine SW.seq ?_ | refine SW.block ?_ | (refine SW.dL [0,1,4,5,6,11,12,13,16,19] mixed ?_;(repeat (first | refine RW.ro (And.intro (e1) (e3)) (h:= ?_) | refine RW.skip (h:= ?_) | refine RW.op (And.intro (e1) (e3)) (h:= ?_) | refine RW.d_ (And.intro (e1) (e3)) (h:= ?_) | refine RW.bJ (h:= ?_) | (refine RW.bu (h:= ?_);(first | refine aj.mk (And.intro (e1) (e3)) (hc:=tI _ _) (h:= ?_)))));refine RW.nil ⟨by kernel_rfl,ak.mk (h:= ?_)⟩) | refine SW.skip ?_ | refine SW.exit ?_ | refine SW.ret ?_ | refine SW.au rfl ?_ | refine SW.aq rfl ?_))
  exact End.mk [] (h4:=⟨by rw [e2];rfl,rfl⟩)
theorem E8 (a b:Int)(k:Nat):aF Tryz.prog cmp_Compare_uint64.f [.d (.int .u64 a),.d (.int .u64 b)] [] k 0 (.d (.int .i64 (gl a b))) []:=(E7 a b).sc rfl k
def Ic (a b c:Int):Int:=if a=0 then (if b=0 then c else b) else a
theorem JF (a b c:Int):Go.Sl.Pure Tryz.prog cmp_Or_int.f [.d (.sl 3 [.int .i64 a,.int .i64 b,.int .i64 c])] (i64 (Ic a b c)):=by
 refine cmp_Or_int.enter (by first | rfl | simp [SV.ok,SV.aA]) (by first | rfl | simp [Hp.ok,Ob.ok,SV.ok,SV.aA,av.an]) (by simp) ?_
 dsimp only [cmp_Or_int.s,Co.M,Co.G,Co.J,Co.H,Co.N,Co.F,Co.C,Co.Z,Co.B,Co.b8,Co.ay,Co.bU,Co.i6,Co.z8,Co.cq]
 (repeat (first | refine SW.seq ?_ | refine SW.block ?_ | refine SW.g0 [0,2,3,5,6,7,8,9,14] mixed af ?_ | refine SW.skip ?_ | refine SW.exit ?_ | refine SW.ret ?_ | refine SW.au rfl ?_ | refine SW.aq rfl ?_))
 refine SW.lD (α:={i:Nat // i≤3∧(1≤i→a=0)∧(2≤i→b=0)∧(3≤i→c=0)}) (fun i=>⟨[(8,i64 i.1),(6,.d (.sl 3 [.int .i64 a,.int .i64 b,.int .i64 c])),(7,i64 3),(3,i64 0)],[],0⟩) (fun i=>3 - i.1) ⟨0,by omega⟩ id af (round:= ?_)
 rintro ⟨i,hi,ha,hb,hc⟩
 match i,hi,ha,hb,hc with
 | 0,_,_,_,_=>
  rcases h1:(a != 0) with _ | _
  ·(repeat (first | refine SW.seq ?_ | refine SW.block ?_ | refine SW.g0 [0,2,3,5,6,7,8,9,14] mixed (h1) ?_ | refine SW.skip ?_ | refine SW.exit ?_ | refine SW.ret ?_ | refine SW.au rfl ?_ | refine SW.aq rfl ?_))
   exact Next.mk ⟨1,by omega,fun _=>by simpa using h1,by omega⟩ id af
  ·(repeat (first | refine SW.seq ?_ | refine SW.block ?_ | refine SW.g0 [0,2,3,5,6,7,8,9,14] mixed (h1) ?_ | refine SW.skip ?_ | refine SW.exit ?_ | refine SW.ret ?_ | refine SW.au rfl ?_ | refine SW.aq rfl ?_))
   exact End.mk [] (h4:=⟨by simp at h1;unfold Ic;rw [if_neg h1];rfl,rfl⟩)
 | 1,_,ha,_,_=>
  rcases h1:(b != 0) with _ | _
  ·(repeat (first | refine SW.seq ?_ | refine SW.block ?_ | refine SW.g0 [0,2,3,5,6,7,8,9,14] mixed (h1) ?_ | refine SW.skip ?_ | refine SW.exit ?_ | refine SW.ret ?_ | refine SW.au rfl ?_ | refine SW.aq rfl ?_))
   exact Next.mk ⟨2,by omega,fun _=>ha (by omega),fun _=>by simpa using h1,by omega⟩ id af
  ·(repeat (first | refine SW.seq ?_ | refine SW.block ?_ | refine SW.g0 [0,2,3,5,6,7,8,9,14] mixed (h1) ?_ | refine SW.skip ?_ | refine SW.exit ?_ | refine SW.ret ?_ | refine SW.au rfl ?_ | refine SW.aq rfl ?_))
   exact End.mk [] (h4:=⟨by simp at h1;unfold Ic;rw [if_pos (ha (by omega)),if_neg h1];rfl,rfl⟩)
 | 2,_,ha,hb,_=>
  rcases h1:(c != 0) with _ | _
  ·(repeat (first | refine SW.seq ?_ | refine SW.block ?_ | refine SW.g0 [0,2,3,5,6,7,8,9,14] mixed (h1) ?_ | refine SW.skip ?_ | refine SW.exit ?_ | refine SW.ret ?_ | refine SW.au rfl ?_ | refine SW.aq rfl ?_))
   exact Next.mk ⟨3,by omega,fun _=>ha (by omega),fun _=>hb (by omega),fun _=>by simpa using h1⟩ id af
  ·(repeat (first | refine SW.seq ?_ | refine SW.block ?_ | refine SW.g0 [0,2,3,5,6,7,8,9,14] mixed (h1) ?_ | refine SW.skip ?_ | refine SW.exit ?_ | refine SW.ret ?_ | refine SW.au rfl ?_ | refine SW.aq rfl ?_))
   exact End.mk [] (h4:=⟨by unfold Ic;rw [if_pos (ha (by omega)),if_pos (hb (by omega))];rfl,rfl⟩)
 | 3,_,ha,hb,hc=>
  (repeat (first | refine SW.seq ?_ | refine SW.block ?_ | refine SW.g0 [0,2,3,5,6,7,8,9,14] mixed af ?_ | refine SW.skip ?_ | refine SW.exit ?_ | refine SW.ret ?_ | refine SW.au rfl ?_ | refine SW.aq rfl ?_))
  exact End.mk [] (h4:=⟨by unfold Ic;rw [if_pos (ha (by omega)),if_pos (hb (by omega)),hc (by omega)];rfl,rfl⟩)
theorem JG (a b c:Int)(k:Nat):aF Tryz.prog cmp_Or_int.f [.d (.sl 3 [.int .i64 a,.int .i64 b,.int .i64 c])] [] k 0 (.d (.int .i64 (Ic a b c))) []:=(JF a b c).sc rfl k
theorem zz:∀ (x y z a b c:SV),bW (bW (bW [x,y,z] 0 [a]) 1 [b]) 2 [c]=[a,b,c]:=fun _ _ _ _ _ _=>rfl
theorem Hi (a b:ag):Ic (gl a.time b.time) (gl a.dot.r b.dot.r) (gl a.dot.n b.dot.n)=xz a b:=by
  unfold xz Ic gl
  by_cases h1:a.lt b=true
  · rw [if_pos h1]
    rw [ag.lt_iff] at h1
    repeat' split
    all_goals omega
  · by_cases h2:b.lt a=true
    · rw [if_neg h1,if_pos h2]
      rw [ag.lt_iff] at h1 h2
      repeat' split
      all_goals omega
    · rw [if_neg h1,if_neg h2]
      rw [ag.lt_iff] at h1 h2
      repeat' split
      all_goals omega
theorem yx (a b:ag):Go.Sl.Pure Tryz.prog order_Compare.f [.agg a.cells,.agg b.cells] (i64 (xz a b)):=by
 rw [← Hi];refine order_Compare.enter (by first | rfl | simp [SV.ok,SV.aA]) (by first | rfl | simp [Hp.ok,Ob.ok,SV.ok,SV.aA,av.an]) (by simp) ?_
 dsimp only [order_Compare.s,Co.M,Co.G,Co.J,Co.H,Co.N,Co.F,Co.C,Co.Z,Co.B,Co.b8,Co.ay,Co.bU,Co.i6,Co.z8,Co.cq]
 (repeat (first | refine SW.seq ?_ | refine SW.block ?_ | (refine SW.dL [0,1,2,3,4] mixed ?_;(repeat (first | refine RW.ro (zz) (h:= ?_) | refine RW.skip (h:= ?_) | refine RW.op (zz) (h:= ?_) | refine RW.d_ (zz) (h:= ?_) | refine RW.bJ (h:= ?_) | (refine RW.bu (h:= ?_);(first | refine aj.mk (zz) (hc:=E8 _ _ _) (h:= ?_) | refine aj.mk (zz) (hc:=Ax _ _ _) (h:= ?_) | refine aj.mk (zz) (hc:=ya _ _ _) (h:= ?_) | refine aj.mk (zz) (hc:=JG _ _ _ _) (h:= ?_)))));refine RW.nil ⟨by kernel_rfl,ak.mk (h:= ?_)⟩) | refine SW.skip ?_ | refine SW.exit ?_ | refine SW.ret ?_ | refine SW.au rfl ?_ | refine SW.aq rfl ?_))
 exact End.mk [] (h4:=⟨rfl,rfl⟩)
theorem yy (a b:ag)(k:Nat):aF Tryz.prog order_Compare.f [.agg a.cells,.agg b.cells] [] k 0 (.d (.int .i64 (xz a b))) []:=(yx a b).sc rfl k
end
section
attribute [local irreducible] SW RW aF SC aj ak jl wN
noncomputable def nr (S:Sh)(o:ag)(e:Dt):Bool:=decide ((S.op e).aR=o.aR) && (S.good e && decide (xz (S.op e) o<0))
abbrev iH (S:Sh)(X:Ix)(st:av)(K:KM)(o:ag):Hp:=(14,.box 43 o.cells)::(13,.box 131 [.ptr 0 0])::fH S X st K
theorem Ie (S:Sh)(X:Ix)(st:av)(K:KM)(o:ag){k:Nat}(hk:15≤k):(iH S X st K o).ok (fun n=>decide (n<k))=true:=
 ah (by simp;omega) (by simp [Ob.ok,ag.an]) (ah (by simp;omega) (by simp [Ob.ok,SV.aA,SV.ok];omega) (rN S X st K (by omega)))
theorem Lm (S:Sh)(X:Ix)(st:av)(K:KM)(o:ag):∀ i,i<15→lk (iH S X st K o) i≠none:=fun i hi=>by
 match i,hi with
 | 0,_ | 1,_ | 2,_ | 3,_ | 4,_ | 5,_ | 6,_ | 7,_ | 8,_ | 9,_ | 10,_ | 11,_ | 12,_ | 13,_ | 14,_=>simp [aa]
abbrev nF:Sn:=⟨6,7,8,9,10,11,12⟩
theorem Ln {l:List ag}{S:Sh}(h:bI l S)(hs:iD S)(d:Dt)(k:Nat):aF Tryz.prog shape_Shape_Op.f [.ptr 6 0,.agg d.cells] (fT S) k 0 (.dU [.agg (S.op d).cells,bl (MM.has S.ops d)]) (fT S):=
 S.at_ (v8 S hs d) (fun ρ=>by simp [SV.aK,SV.aB,Dt.ax]) (fun ρ=>by simp [SV.aK,SV.aB,ag.ax]) nF (by unfold Sn.ok Sn.nl;decide) k
theorem JH {l:List ag}{S:Sh}(h:bI l S)(hs:iD S)(d:Dt)(k:Nat):aF Tryz.prog shape_Shape_Good.f [.ptr 6 0,.agg d.cells] (fT S) k 0 (bl (S.good d)) (fT S):=xW S h.base.tP hs d nF (by unfold Sn.ok Sn.nl;decide) k
set_option maxHeartbeats 16000000 in
theorem E9 {l:List ag}{S:Sh}(h:bI l S)(hl:l.length≤80)(hs:iD S)(st:av)(K:KM)(hK:K.ok (dS (gJ st) h.X.bN 10))(o:ag)(e:Dt):
  SB Tryz.prog final_Outcomes_1_1.f [.agg e.cells,.ptr 13 0,.ptr 14 0] (iH S h.X st K o) 15 0 fun r F=>r=bl (nr S o e && !dS (gJ st) h.X.bN 10 e)∧F=iH S h.X st (if nr S o e then mP (gJ st) h.X.bN 10 K e else K) o:=by
 refine final_Outcomes_1_1.enter (by simp [SV.aA,SV.ok,Dt.an]) (Ie S _ st K o (Nat.le_refl 15)) (by simp) ?_
 dsimp only [final_Outcomes_1_1.s,Co.M,Co.G,Co.J,Co.H,Co.N,Co.F,Co.C,Co.Z,Co.B,Co.b8,Co.ay,Co.bU,Co.i6,Co.z8,Co.cq];have a0:=ER st 6 2 1;have al:(0+1≤(rM st 6 2 1).length)=True:=eq_true (by rw [yp];decide)
 have cO:=Ln h hs e;have cG:=JH h hs e;have cF:=tF (tG S h.X (h.small hl) st h.X.tD h.lvl 10 h.nq (h.AM hl) 10 e K (h.nq e) hK);have cC:=yy (S.op e) o;have hah:nr S o e=(decide ((S.op e).aR=o.aR) && (S.good e && decide (xz (S.op e) o<0))):=rfl;rw [hah];clear hah;generalize mP (gJ st) h.X.bN 10 K e=K2 at cF ⊢;generalize dS (gJ st) h.X.bN 10 e=bf at cF ⊢;generalize S.good e=bg at cG ⊢;generalize MM.has S.ops e=bh at cO;obtain ⟨q,hq⟩:∃ q,S.op e=q:=⟨_,rfl⟩;rw [hq] at cO cC ⊢;generalize xz q o=z at cC ⊢;have o12:List.take 2 (List.drop 12 o.cells)=o.aR.cells:=rfl;have q12:List.take 2 (List.drop 12 q.cells)=q.aR.cells:=rfl;have hokI:∀ K',(iH S h.X st K' o).ok (fun n=>decide (n<15+0))=true:=fun K'=>Ie S _ st K' o (Nat.le_refl 15)
 dsimp only [iH,fH,fT];refine SW.seq ?_;refine SW.g0 [0,1,2,3,4,5] mixed af ?_;refine SW.seq ?_;refine SW.g1 [0,1,2,3,4,5] mixed (And.intro (a0) (al)) cO ?_;refine SW.seq ?_;cases h1:decide (q.aR=o.aR) with
 | false=>
  refine SW.g0 [0,1,2,3,4,5] mixed (And.intro (o12) (And.intro (q12) (h1))) ?_;refine SW.ret ?_;exact End.mk (iH S h.X st K o) (h4:=⟨rfl,rfl⟩) (h6:=hokI K)
 | true=>
  cases bg with
  | false=>
   refine SW.g1 [0,1,2,3,4,5] mixed (And.intro (a0) (And.intro (al) (And.intro (o12) (And.intro (q12) (h1))))) cG ?_;refine SW.ret ?_;exact End.mk (iH S h.X st K o) (h4:=⟨rfl,rfl⟩) (h6:=hokI K)
  | true=>
   cases h3:decide (z<0) with
   | false=>
    refine SW.g2 [0,1,2,3,4,5] mixed (And.intro (a0) (And.intro (al) (And.intro (o12) (And.intro (q12) (And.intro (h1) (h3)))))) cG cC ?_;refine SW.ret ?_;exact End.mk (iH S h.X st K o) (h4:=⟨rfl,rfl⟩) (h6:=hokI K)
   | true=>
    refine SW.g4 [0,1,2,3,4,5] mixed (And.intro (a0) (And.intro (al) (And.intro (o12) (And.intro (q12) (And.intro (h1) (h3)))))) cG cC cF trivial ?_;refine SW.ret ?_;exact End.mk (iH S h.X st K2 o) (h4:=⟨by cases bf <;> rfl,rfl⟩) (h6:=hokI K2)
end
end Go.Proofs.YtaelhkkjgfobhaaGreat
