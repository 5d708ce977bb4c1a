/-
 Final: whose verdicts are final.
-/
import Derived.Test.YtaelhkkjgfobhaaGreatP6
import Derived.Test.YtaelhkkjgfobhaaGreatPZ
import Derived.Test.YtaelhkkjgfobhaaGreatPE
import Derived.Test.YtaelhkkjgfobhaaGreatPV
import Derived.Test.YtaelhkkjgfobhaaGreatP5
set_option linter.unusedSectionVars false
set_option linter.unusedVariables false
set_option linter.unusedSimpArgs false
namespace Go.Proofs.YtaelhkkjgfobhaaGreat
open Go.Sl Go.Proofs
section
attribute [local irreducible] SW RW aF SC ai aq j6 Ac
noncomputable def dK (l:List ag)(d:Dt):List Dt:=if di l d then (bI l).filter (mK l d) else []
noncomputable def oh (l:List ag)(st:aB)(d:Dt):Bool:=eF (iQ st) (dK l) 10 d
abbrev fA (l:List ag):List Dt:=Dt.set (l.map (·.dot))
section
variable {l:List ag} {S:Sh} (h:bR l S)
include h
theorem bR.tP:h.X.bY=dK l:=by
 funext d
 unfold Ix.bY dK;rw [h.Lp,h.B0];cases hg:di l d with
 | false=>rfl
 | true=>
  have hg':S.good d=true:=by rw [h.B0];exact hg
  simp only [if_true];exact h.Of hg'
theorem bR.lvl (d t:Dt)(ht:t∈h.X.bY d):h.X.va t<h.X.va d:=by
 unfold Ix.bY at ht;rw [h.Lp] at ht;cases hg:S.good d with
 | false=>rw [hg] at ht;cases ht
 | true=>
  rw [hg,if_pos rfl,Dt.mem_set,h.Oc hg,h.M8 hg] at ht;obtain ⟨h1,_,_,_,h5,_,_⟩:=h.hit hg ht;unfold Ix.va;rw [h.Gl h1,h.Gl hg];exact h5
theorem bR.oP (d:Dt):h.X.va d<10:=by
 cases hg:S.good d with
 | true=>
  unfold Ix.va;rw [h.Gl hg];have:=h.BY (S.op d);omega
 | false=>unfold Ix.va;rw [h.JS hg];decide
theorem bR.B5 (hl:l.length≤80)(d:Dt):(h.X.bY d).length<1000000000:=by
 unfold Ix.bY
 split
 ·exact h.tL hl _
 ·decide
end
theorem KM.Ab (fin:Dt→Bool):(KM.mk [] 0).ok fin:=fun d=> .inl rfl
theorem Lz (S:Sh)(X:Ix)(st:aB)(K K':KM)(q:Nat→Bool)(h:(zL S X st K).ok q=true):(zL S X st K').ok q=true:=by
 simp only [Hp.ok,List.all_cons,Ob.ok,nS] at h ⊢;exact h
theorem OO {l:List ag}{S:Sh}(h:bR l S)(hl:l.length≤80)(st:aB):I_ Tryz.prog final_asker_final.f [.ptr 18 0] [] (zL S h.X st) (og (iQ st) h.X.bY 10) (eF (iQ st) h.X.bY 10) 0 (KM.ok (eF (iQ st) h.X.bY 10)) where
 nd K:=by simp
 nm K K':=rfl
 step K d hK:=(pR h.lvl h.oP 10 K d (h.oP d) hK).1
 ok K d q hq:=Lz S _ st K _ q hq
 call K d k hK _:=by
  have:=SB.pz LW (ve S h.X (h.small hl) st h.X.va h.lvl 10 h.oP (h.B5 hl) 10 d K (h.oP d) hK) (by decide) (fun i hi=>JV S h.X st K i hi) k;rw [B3,B3] at this
  simpa [SV.aT,SV.aC,fF,Dt.ay] using this
 a1 K q hq:=by
  simp only [Hp.ok,List.all_cons,Bool.and_eq_true] at hq;exact ⟨by simp [SV.ax,SV.ok,hq.1.1],rfl⟩
 cl K:=tO S _ st K _ fun n hn=>by
  simp only [List.mem_cons,List.not_mem_nil,or_false] at hn;rcases hn with rfl | rfl | rfl | rfl | rfl | rfl | rfl | rfl | rfl | rfl | rfl | rfl | rfl <;> rfl
abbrev B6 (S:Sh):Hp:=[(12,.box 117 [.ptr 4 0,.mp 9,.mp 10,.mp 11]),(9,.map (au Dt.cells ov S.ops) S.co),(10,.map (au Dt.cells iv S.fZ) S.ca),(11,.map (au Dt.cells dv S.l9) S.cl),(4,.box 166 [.mp 2,.mp 3]),(2,.map (au Dt.cells cv S.tr) S.ct),(3,.map (au Dt.cells ov S.md) S.cm)]
theorem Jc (S:Sh)(X:Ix)(st:aB)(K:KM):HSub (B6 S) (zL S X st K):=by
 refine HSub.cons ?_ (HSub.cons ?_ (HSub.cons ?_ (HSub.cons ?_ (HSub.cons ?_ (HSub.cons ?_ (HSub.cons ?_ (HSub.nil _))))))) <;> rfl
theorem Jd (S:Sh)(X:Ix)(st:aB)(K:KM)(o:Ob):bS false (zL S X st K) (B6 S) ((21,o)::B6 S)=(21,o)::zL S X st K:=by
 simp only [bS,bZ,b_,fC,fK,cM,lk,List.lookup,Nat.reduceBEq,BEq.rfl,beq_self_eq_true,if_true,if_false,reduceIte,Nat.reduceEqDiff,Bool.false_eq_true,Option.isSome_some,Option.isSome_none]
theorem B7 {l:List ag}{S:Sh}(h:bR l S)(hl:l.length≤80)(st:aB)(K:KM):aF Tryz.prog shape_Shape_Dots.f [.ptr 12 0] (zL S h.X st K) 20 2 (.gs 21 (fA l).length) ((21,kE (fA l) 21)::zL S h.X st K):=by
 have h1:=SB.pz [12,9,10,11,4,2,3] (wY S h.base.ops.wf (by have:=h.jc;omega)) (by decide) (fun i hi=>S.BK i hi) 20;rw [h.xX] at h1;show aF _ _ _ _ _ _ (.gs 21 (Dt.set (l.map (·.dot))).length) ((21,kE (Dt.set (l.map (·.dot))) 21)::_);generalize Dt.set (l.map (·.dot))=D at h1 ⊢;have e1:S.h0.aC (fF [12,9,10,11,4,2,3] 20)=B6 S:=by simp [Hp.aC,Ob.aC,SV.aT,SV.aC,fF,bK,cH,dZ,dG]
 have e2:Hp.aC (fF [12,9,10,11,4,2,3] 20) ((8,kE D 8)::S.h0)=(21,kE D 21)::B6 S:=by
  rw [← e1];simp [Hp.aC,Ob.aC,fF,SV.gD]
 rw [e1,e2] at h1;have h2:aF Tryz.prog shape_Shape_Dots.f [.ptr 12 0] (B6 S) 20 2 (.gs 21 D.length) ((21,kE D 21)::B6 S):=h1;unfold aF at h2 ⊢;have h3:=SC.frame h2 (Jc S h.X st K);refine SC.mono h3 fun r F hh=> ?_
 obtain ⟨F1,⟨h4,h5⟩,h6⟩:=hh;rw [h5,Jd] at h6;exact ⟨h4,h6⟩
theorem GF {l:List ag}{S:Sh}(h:bR l S)(hl:l.length≤80)(st:aB):SC Tryz.prog final_asker_some.f [.ptr 18 0,.fn (.func final_asker_final.f) [.ptr 18 0] []] (zL S h.X st ⟨[],0⟩) 19 (3+((fA l).length*(1+0)+(fA l).length*(1+0+1))) fun r F=>∃ K',r= .gs 21 ((fA l).filter (oh l st)).length∧F=(21,kE ((fA l).filter (oh l st)) 21)::zL S h.X st K':=by
 have hds:(fA l).length≤80:=h.jx hl;have lJ:=(OO h hl st).cl ⟨[],0⟩;have:=(B2 (OO h hl st) ⟨[],0⟩ (KM.Ab _) 18 12 16 17 st (fA l) (by omega) 19 (tO S _ st _ _ (by decide)) rfl (B7 h hl st _) (fun K n hn=>gf (by simp;omega))).here (fun n=>(lk (zL S h.X st ⟨[],0⟩) n).isSome) (fun n hn e=>by rw [e] at hn;cases hn) (by simp [SV.ax,SV.ok,aa]) lJ (by
  rintro r F ⟨K',_,rfl,rfl⟩ _ _;refine ⟨by simp [SV.ok];right;omega,an (by simp;right;omega) (SV.br _) (tO S _ st _ _ fun n hn=> ?_)⟩;rw [Bool.or_eq_true];left;simp only [List.mem_cons,List.not_mem_nil,or_false] at hn;rcases hn with rfl | rfl | rfl | rfl | rfl | rfl | rfl | rfl | rfl | rfl | rfl | rfl | rfl <;> rfl)
 refine SC.mono this ?_;rintro r F ⟨K',_,rfl,rfl⟩;have e:eF (iQ st) h.X.bY 10=oh l st:=by rw [h.tP];rfl
 rw [e];exact ⟨K',rfl,rfl⟩
end
section
attribute [local irreducible] SW RW aF SC ai aq j6 Ac
abbrev OP (S:Sh):Hp:=[(13,.box 117 [.ptr 5 0,.mp 10,.mp 11,.mp 12]),(10,.map (au Dt.cells ov S.ops) S.co),(11,.map (au Dt.cells iv S.fZ) S.ca),(12,.map (au Dt.cells dv S.l9) S.cl),(5,.box 166 [.mp 3,.mp 4]),(3,.map (au Dt.cells cv S.tr) S.ct),(4,.map (au Dt.cells ov S.md) S.cm)]
abbrev Ph:Sn:=⟨13,10,11,12,5,3,4⟩
theorem Oj {l:List ag}{S:Sh}(h:bR l S)(hs:jv S)(d:Dt)(k:Nat):aF Tryz.prog shape_Shape_Op.f [.ptr 13 0,.agg d.cells] (OP S) k 0 (.dm [.agg (S.op d).cells,bl (MM.has S.ops d)]) (OP S):=
 S.at_ (xQ S hs d) (fun ρ=>by simp [SV.aT,SV.aC,Dt.ay]) (fun ρ=>by simp [SV.aT,SV.aC,ag.ay]) Ph (by unfold Sn.ok Sn.nl;decide) k
abbrev Ol (S:Sh)(X:Ix)(st:aB)(K:KM)(M:IM):Hp:=(21,.map (au Dt.cells iv M.m) M.c)::Oi S X st K
theorem Je {l:List ag}{S:Sh}(h:bR l S)(hl:l.length≤80)(st:aB)(K:KM)(d:Dt)(k:Nat):aF Tryz.prog final_asker_waits.f [.ptr 19 0,.agg d.cells,.mp 21] (Ol S h.X st K ⟨[],0⟩) k 0 (.dm []) (Ol S h.X st K (qw h.X.bY 10 ⟨[],0⟩ d)):=by
 have:=SB.pz (ON++[21]) (Gz S h.X (h.small hl) st K h.X.va h.lvl (h.B5 hl) 10 d ⟨[],0⟩ (h.oP d)) (by decide) (fun i hi=>JX S h.X st K _ i (by simpa using hi)) k;have e:∀ M:IM,(wH S h.X st K M).aC (fF (ON++[21]) k)=Ol S h.X st K M:=fun M=>by
  simp [Hp.aC,Ob.aC,SV.aT,SV.aC,fF,lS,jX,bK,eN,cH,dZ,dG]
 rw [e,e] at this
 simpa [SV.aT,SV.aC,fF,Dt.ay] using this
noncomputable def bw (l:List ag)(st:aB)(d:Dt):List Dt:= @List.filter _ (fun e=> @decide (Reach (dK l) d e) (Classical.propDecidable _) && !st.bn e) (fA l)
theorem sP {l:List ag}{st:aB}{d e:Dt}:e∈bw l st d↔e∈fA l∧Reach (dK l) d e∧st.bn e=false:=by
 unfold bw;rw [List.mem_filter];simp
theorem rQ {l:List ag}{d:Dt}:d∈fA l↔(aS l d).isSome=true:=by
 rw [Dt.mem_set,List.mem_map,nM]
theorem zM {l:List ag}{d:Dt}(h:di l d=true):d∈fA l:=by
 rw [rQ];unfold di at h;cases hf:aS l d with
 | none=>rw [hf] at h;cases h
 | some o=>rfl
theorem vf {l:List ag}{d t:Dt}(h:t∈dK l d):di l t=true:=by
 unfold dK at h
 split at h
 ·exact wT.1 (List.mem_filter.1 h).1
 ·cases h
theorem oQ {l:List ag}{d e:Dt}(hd:d∈fA l)(h:Reach (dK l) d e):e∈fA l:=by
 induction h with
 | refl=>exact hd
 | step ht _ ih=>exact ih (zM (vf ht))
theorem xb {l:List ag}{st:aB}{d:Dt}(hd:d∈fA l){R:List Dt}(hR:∀ e,e∈R↔Reach (dK l) d e∧st.bn e=false):Dt.set R=bw l st d:=
 Dt.jh (Dt.jK _) ((Dt.jK _).filter _) fun v=>by
  rw [Dt.mem_set,hR];show _↔v∈bw l st d;rw [sP];exact ⟨fun h=>⟨oQ hd h.1,h⟩,fun h=>h.2⟩
noncomputable def eY (l:List ag)(st:aB)(d:Dt):SV:=if (aS l d).isSome then .dm [aW (bw l st d),i64 0] else .dm [.d .aJ,i64 7]
def qy (st:aB)(xs:MM Dt Int):List Dt:=(xs.map (·.2.1)).filter fun e=> !st.bn e
theorem Dk (st:aB)(xs:MM Dt Int)(x:Nat×Dt×Int):qy st (xs++[x])=if st.bn x.2.1 then qy st xs else qy st xs++[x.2.1]:=by
 unfold qy;rw [List.map_append,List.filter_append];cases h:st.bn x.2.1 <;> simp [h]
theorem Dl {M xs:MM Dt Int}{c:Nat}(hwf:MM.wf M c)(p1:∀ x,x∈xs→x∈M)(hall:∀ e,e∈au Dt.cells iv M→(xs.map (·.1)).contains e.1=true):∀ x,x∈xs↔x∈M:=fun x=>⟨p1 x,fun hx=>by
 have:=hall _ (List.mem_map.2 ⟨x,hx,rfl⟩);simp only [List.contains_iff_mem] at this;obtain ⟨z,hz,e⟩:=List.mem_map.1 this;rw [← MM.qY hwf.times (p1 z hz) hx e];exact hz⟩
theorem A3 {M xs:MM Dt Int}(p1:∀ x,x∈xs→x∈M)(p2:(xs.map (·.1)).Nodup){x:Nat×Dt×Int}(hx:x∈M)(hs:(xs.map (·.1)).contains x.1=false):(∀ z,z∈xs++[x]→z∈M)∧((xs++[x]).map (·.1)).Nodup∧x.1∉xs.map (·.1):=by
 have hxt:x.1∉xs.map (·.1):=fun h=>by
  have:(xs.map (·.1)).contains x.1=true:=by simpa only [List.contains_iff_mem] using h
  rw [this] at hs;cases hs
 refine ⟨fun z hz=> ?_,?_,hxt⟩
 ·rcases List.mem_append.1 hz with hz | hz
  ·exact p1 z hz
  ·rw [List.mem_singleton.1 hz];exact hx
 ·rw [List.map_append,List.nodup_append]
  refine ⟨p2,by simp,fun a ha b' hb'=> ?_⟩;simp only [List.map_cons,List.map_nil,List.mem_singleton] at hb';intro e;exact hxt (by rw [← hb',← e];exact ha)
structure WI (M:IM)(xs:MM Dt Int):Prop where
 sub:∀ x,x∈xs→x∈M.m
 nd:(xs.map (·.1)).Nodup
abbrev wL (st:aB)(M:IM)(seen:List Nat)(R:List Dt):Hp:=[(23,.iter (some 21) M.c seen M.c),(22,kE R 22),(21,.map (au Dt.cells iv M.m) M.c),(0,.box 39 st.cells)]
theorem J1 (st:aB)(M:IM)(seen:List Nat)(R:List Dt):(wL st M seen R).ok (fun n=>decide (n<24))=true:=
 an (by decide) (I4 _ _ _ _ _ (by decide)) (an (by decide) (SV.br _) (an (by decide) (bJ _ _) (an (by decide) (aB.ak _ _) rfl)))
set_option maxHeartbeats 8000000 in
theorem A4 (l:List ag)(hl:l.length≤80)(hd:oO l)(st:aB)(d:Dt):Go.Sl.Pure Tryz.prog final_Waits.f [ops l,.agg st.cells,.agg d.cells] (eY l st d):=by
 refine final_Waits.enter (by first | rfl | simp [SV.ok,SV.ax]) (by first | rfl | simp [Hp.ok,Ob.ok,SV.ok,SV.ax,aB.ak]) (by simp) ?_;dsimp only [final_Waits.s,Co.M,Co.J,Co.F,Co.Z,Co.b8,Co.av,Co.bF,Co.T,Co.K,Co.E,Co.P,Co.Q,Co.R,Co.x,Co.W,Co.O,Co.D,Co.A,Co.S];refine SW.seq ?_;refine SW.g0 [0,1,2,4,5,6,7,8,10,11,12,13,27,34,36,42] mixed af ?_;refine SW.seq (SW.vC ?_);(repeat (first | refine bu.op af (h:= ?_) | refine bu.dD af (h:= ?_) | refine bu.skip (h:= ?_)));refine bu.aM (Ly l hl hd st) (HSub.nil _) (h:= ?_);rintro _ _ ⟨S,h,rfl,rfl⟩;simp only [bS,bZ,b_,fC,fK,cM,lk,List.lookup,Nat.reduceBEq,BEq.rfl,beq_self_eq_true,if_true,if_false,reduceIte,Nat.reduceEqDiff,Bool.false_eq_true,Option.isSome_some,Option.isSome_none,Nat.reduceAdd];(repeat (first | refine bu.op af (h:= ?_) | refine bu.dD af (h:= ?_) | refine bu.skip (h:= ?_)));refine bu.nil ?_;have cO:=Oj h (h.short hd) d;have hhas:MM.has S.ops d=(aS l d).isSome:=h.base.has d;rw [hhas] at cO;have b0:=Gr st 13 17 18;have bl0:(0+1≤(s7 st 13 17 18).length)=True:=eq_true (by rw [zI];decide);refine SW.seq (SW.seq ?_);refine SW.g1 [0,1,2,4,5,6,7,8,10,11,12,13,27,34,36,42] mixed (And.intro (b0) (bl0)) cO ?_;refine SW.seq ?_;cases hf:(aS l d).isSome with
 | false=>
  have e:eY l st d= .dm [.d .aJ,i64 7]:=by unfold eY;rw [hf];rfl
  rw [e];refine SW.g0 [0,1,2,4,5,6,7,8,10,11,12,13,27,34,36,42] mixed af ?_;refine SW.aj rfl (SW.seq ?_);refine SW.g0 [0,1,2,4,5,6,7,8,10,11,12,13,27,34,36,42] mixed af ?_;refine SW.ret ?_;exact End.mk [] (h4:=⟨rfl,rfl⟩)
 | true=>
  have e:eY l st d= .dm [aW (bw l st d),i64 0]:=by unfold eY;rw [hf];rfl
  rw [e];refine SW.g0 [0,1,2,4,5,6,7,8,10,11,12,13,27,34,36,42] mixed af ?_;refine SW.ah rfl (SW.skip ?_);refine SW.seq ?_;refine SW.g0 [0,1,2,4,5,6,7,8,10,11,12,13,27,34,36,42] mixed af ?_;refine SW.seq ?_;have cW:=Je h hl st ⟨[],0⟩ d;have hMr:∀ e,(qw h.X.bY 10 ⟨[],0⟩ d).get e>0↔Reach (dK l) d e:=fun e=>by
   rw [Di h.lvl (h.oP d),h.tP]
  have hMg:=zJ (eO:=h.X.bY) 10 ⟨[],0⟩ d IM.Nc;generalize qw h.X.bY 10 ⟨[],0⟩ d=M at cW hMr hMg;have hdd:d∈fA l:=rQ.2 hf;have hMl:M.m.length≤80:=by
   have h1:=hMg.1.keys.length_le_of_subset (l₂:=fA l) fun e he=>by
    rw [← MM.iz,hMg.has,hMr] at he;exact oQ hdd he
   have h2:=h.jx hl;have h3:(MM.keys M.m).length=M.m.length:=by simp [MM.keys]
   have h4:(fA l).length≤80:=h2;omega
  refine SW.g1 [0,1,2,4,5,6,7,8,10,11,12,13,27,34,36,42] mixed af cW ?_;refine SW.seq ?_;refine SW.g0 [0,1,2,4,5,6,7,8,10,11,12,13,27,34,36,42] mixed af ?_;refine SW.jb 12 37 2 rfl ?_;refine SW.seq (SW.seq ?_);refine SW.g0 [0,1,2,4,5,6,7,8,10,11,12,13,27,34,36,42] mixed af ?_;refine SW.block ?_
  refine SW.q_ (es:=fun _=>au Dt.cells iv M.m) (c:=fun _=>M.c) (uG:=fun _=>23) (nm:=fun _=>21) (since:=fun _=>M.c) (Bv:=fun _=>M.c)
   (α:={xs:MM Dt Int // WI M xs})
   (fun p=>⟨[(34,.it 23),(12,.gs 22 (qy st p.1).length),(4,.ptr 0 0)],wL st M (p.1.map (·.1)) (qy st p.1),24⟩)
   (fun p=>jd (au Dt.cells iv M.m) (p.1.map (·.1))) ⟨[],by simp,by simp⟩ id (seen:=fun p=>p.1.map (·.1)) ?_ (fun p=>by simp [List.lookup]) (fun p=>by simp [aa]) (fun p=>by simp [aa]) (fun p=>by decide) (fun p e' he=> ?_) (fun p=>Nat.le_refl _) (fun p hall=> ?_) (fun p e' he hs=> ?_)
  ·refine aK.same (Nat.zero_le _) (by simp [bp,List.lookup,SV.aC,SV.ok,SV.ax,qy]) (J1 st M _ _) (fun y hy=> ?_)
   simp only [List.mem_cons,List.not_mem_nil,or_false] at hy;rcases hy with rfl | rfl | rfl | rfl <;> rfl
  ·obtain ⟨x,hx,rfl⟩:=fV he
   exact hMg.1.old x hx
  ·obtain ⟨xs,p⟩:=p
   dsimp only at*;have hxs:=Dl hMg.1 p.sub hall;have hR:∀ e,e∈qy st xs↔Reach (dK l) d e∧st.bn e=false:=fun e=>by
    unfold qy;rw [List.mem_filter,← hMr,← hMg.has,MM.iz];unfold MM.keys;simp only [List.mem_map,hxs,Bool.not_eq_true']
   have hRl:(qy st xs).length≤80:=by
    have h1:=List.length_filter_le (fun e=> !st.bn e) (xs.map (·.2.1));have h2:=p.nd.length_le_of_subset (l₂:=M.m.map (·.1)) fun n hn=>by
     obtain ⟨z,hz,rfl⟩:=List.mem_map.1 hn;exact List.mem_map.2 ⟨z,p.sub z hz,rfl⟩
    simp only [List.length_map] at h1 h2;unfold qy;omega
   have hset20:=xb hdd hR;rw [← hset20];generalize qy st xs=R at hRl ⊢;refine ⟨⟨[(12,.gs 22 R.length)],[(22,kE R 22)],24⟩,id,aK.same (Nat.zero_le _) (by simp [bp,List.lookup,SV.aC,SV.ok,SV.ax]) (an (by simp) (SV.br _) rfl) (fun y hy=>by
    rw [List.mem_singleton] at hy;subst hy;rfl),?_⟩
   rw [if_pos rfl];refine SW.freeze 22 (R.flatMap Dt.ds) rfl rfl ?_;simp only [iZ,SV.iw,List.map_cons,List.map_nil,if_true,if_false,reduceIte,cM,Nat.reduceEqDiff];have cS:=BQ R (by omega);refine SW.seq ?_;refine SW.g1 [0,1,2,4,5,6,7,8,10,11,12,13,27,34,36,42] mixed af cS ?_;refine SW.ret ?_;exact End.mk [] (h4:=⟨rfl,rfl⟩)
  ·obtain ⟨xs,p⟩:=p
   dsimp only at*;obtain ⟨x,hx,rfl⟩:=fV he;dsimp only at hs;have g5:(xs.map (·.1)++[x.1]).getLast? =some x.1:=by simp
   have g6:=mz (kc:=Dt.cells) (vs:=iv) hMg.1.times hx;obtain ⟨q1,q2,_⟩:=A3 p.sub p.nd hx hs;have em:(xs++[x]).map (·.1)=xs.map (·.1)++[x.1]:=by simp
   have hm:=mB he hs;have hsn:=Dk st xs x;have hRl:(qy st xs).length≤80:=by
    have h1:=List.length_filter_le (fun e=> !st.bn e) (xs.map (·.2.1));have h2:=p.nd.length_le_of_subset (l₂:=M.m.map (·.1)) fun n hn=>by
     obtain ⟨z,hz,rfl⟩:=List.mem_map.1 hn;exact List.mem_map.2 ⟨z,p.sub z hz,rfl⟩
    simp only [List.length_map] at h1 h2;unfold qy;omega
   obtain ⟨v,hv⟩:∃ v,x.2.1=v:=⟨_,rfl⟩;rw [hv] at hsn;have cC:=pH st v;rw [jD];refine SW.block (SW.seq ?_);refine SW.g0 [0,1,2,4,5,6,7,8,10,11,12,13,27,34,36,42] mixed (And.intro (g5) (And.intro (g6) (hv))) ?_;refine SW.seq ?_;cases hcv:st.bn v with
   | true=>
    rw [hcv] at cC hsn;refine SW.g1 [0,1,2,4,5,6,7,8,10,11,12,13,27,34,36,42] mixed af cC ?_;refine SW.ah rfl (SW.skip ?_);refine ⟨⟨xs++[x],q1,q2⟩,id,by show jd _ ((xs++[x]).map (·.1))<_;rw [em];exact hm,?_⟩;dsimp only;rw [em,hsn,if_pos rfl];refine aK.same (Nat.zero_le _) (by simp [bp,List.lookup,SV.aC,SV.ok,SV.ax]) (J1 st M _ _) (fun y hy=> ?_);simp only [List.mem_cons,List.not_mem_nil,or_false] at hy;rcases hy with rfl | rfl | rfl | rfl <;> rfl
   | false=>
    rw [hcv] at cC hsn;refine SW.g1 [0,1,2,4,5,6,7,8,10,11,12,13,27,34,36,42] mixed af cC ?_;refine SW.aj rfl ?_;generalize qy st xs=R at hRl hsn ⊢;refine SW.g0 [0,1,2,4,5,6,7,8,10,11,12,13,27,34,36,42] mixed af ?_;refine ⟨⟨xs++[x],q1,q2⟩,fun n=>if n=22 then 25 else n,by show jd _ ((xs++[x]).map (·.1))<_;rw [em];exact hm,?_⟩;dsimp only;rw [em,hsn,if_neg (by decide)];exact aK.mk (And.intro (tM R v) (yc R v))
theorem qz (l:List ag)(hl:l.length≤80)(hd:oO l)(st:aB)(d:Dt)(k:Nat):aF Tryz.prog final_Waits.f [ops l,.agg st.cells,.agg d.cells] [] k 0 (eY l st d) []:=(A4 l hl hd st d).sc (by unfold eY;split <;> rfl) k
end
section
attribute [local irreducible] SW RW aF SC ai aq
theorem GG (n:Int):Go.Sl.Pure Tryz.prog cmp_isNaN_uint64.f [.d (.int .u64 n)] (bl false):=by
 refine cmp_isNaN_uint64.enter (by first | rfl | simp [SV.ok,SV.ax]) (by first | rfl | simp [Hp.ok,Ob.ok,SV.ok,SV.ax,aB.ak]) (by simp) ?_;dsimp only [cmp_isNaN_uint64.s,Co.M,Co.J,Co.F,Co.B,Co.V,Co.S];have e1:(n != n)=false:=bne_self_eq_false n;(repeat (first | refine SW.seq ?_ | refine SW.block ?_ | refine SW.g0 [0,2] mixed (e1) ?_ | refine SW.skip ?_ | refine SW.exit ?_ | refine SW.ret ?_ | refine SW.aj rfl ?_ | refine SW.ah rfl ?_));exact End.mk [] (h4:=⟨rfl,rfl⟩)
theorem vg (n:Int)(k:Nat):aF Tryz.prog cmp_isNaN_uint64.f [.d (.int .u64 n)] [] k 0 (.d (.bool false)) []:=(GG n).sc rfl k
theorem GH (a b:Int):Go.Sl.Pure Tryz.prog cmp_Compare_uint64.f [.d (.int .u64 a),.d (.int .u64 b)] (i64 (dJ a b)):=by
 refine cmp_Compare_uint64.enter (by first | rfl | simp [SV.ok,SV.ax]) (by first | rfl | simp [Hp.ok,Ob.ok,SV.ok,SV.ax,aB.ak]) (by simp) ?_;dsimp only [cmp_Compare_uint64.s,Co.M,Co.J,Co.F,Co.Z,Co.P,Co.V,Co.S];rcases Int.lt_trichotomy a b with h | h | h
 ·have e1:decide (a<b)=true:=by simp [h]
  have e2:dJ a b= -1:=by simp [dJ,h]
  (repeat (first | refine SW.seq ?_ | refine SW.block ?_ | (refine SW.bT [0,1,4,5,6,11,12,13,16,19] mixed ?_;(repeat (first | refine RW.ro (e1) (h:= ?_) | refine RW.skip (h:= ?_) | refine RW.op (e1) (h:= ?_) | refine RW.dD (e1) (h:= ?_) | refine RW.aY (h:= ?_) | (refine RW.aM (h:= ?_);(first | refine ai.mk (e1) (hc:=vg _ _) (h:= ?_)))));refine RW.nil ⟨by kernel_rfl,aq.mk (h:= ?_)⟩) | refine SW.skip ?_ | refine SW.exit ?_ | refine SW.ret ?_ | refine SW.aj rfl ?_ | refine SW.ah rfl ?_));exact End.mk [] (h4:=⟨by rw [e2];rfl,rfl⟩)
 ·have e1:decide (a<b)=false:=by simp [h]
  have e3:decide (a>b)=false:=by simp [h]
  have e2:dJ a b=0:=by simp [dJ,h]
  (repeat (first | refine SW.seq ?_ | refine SW.block ?_ | (refine SW.bT [0,1,4,5,6,11,12,13,16,19] mixed ?_;(repeat (first | refine RW.ro (And.intro (e1) (e3)) (h:= ?_) | refine RW.skip (h:= ?_) | refine RW.op (And.intro (e1) (e3)) (h:= ?_) | refine RW.dD (And.intro (e1) (e3)) (h:= ?_) | refine RW.aY (h:= ?_) | (refine RW.aM (h:= ?_);(first | refine ai.mk (And.intro (e1) (e3)) (hc:=vg _ _) (h:= ?_)))));refine RW.nil ⟨by kernel_rfl,aq.mk (h:= ?_)⟩) | refine SW.skip ?_ | refine SW.exit ?_ | refine SW.ret ?_ | refine SW.aj rfl ?_ | refine SW.ah rfl ?_));exact End.mk [] (h4:=⟨by rw [e2];rfl,rfl⟩)
 ·have e1:decide (a<b)=false:=by simp;omega
  have e3:decide (a>b)=true:=by simp [h]
  have e2:dJ a b=1:=by unfold dJ;rw [if_neg (by omega),if_pos h]
  (repeat (first | refine SW.seq ?_ | refine SW.block ?_ | (refine SW.bT [0,1,4,5,6,11,12,13,16,19] mixed ?_;(repeat (first | refine RW.ro (And.intro (e1) (e3)) (h:= ?_) | refine RW.skip (h:= ?_) | refine RW.op (And.intro (e1) (e3)) (h:= ?_) | refine RW.dD (And.intro (e1) (e3)) (h:= ?_) | refine RW.aY (h:= ?_) | (refine RW.aM (h:= ?_);(first | refine ai.mk (And.intro (e1) (e3)) (hc:=vg _ _) (h:= ?_)))));refine RW.nil ⟨by kernel_rfl,aq.mk (h:= ?_)⟩) | refine SW.skip ?_ | refine SW.exit ?_ | refine SW.ret ?_ | refine SW.aj rfl ?_ | refine SW.ah rfl ?_));exact End.mk [] (h4:=⟨by rw [e2];rfl,rfl⟩)
theorem GI (a b:Int)(k:Nat):aF Tryz.prog cmp_Compare_uint64.f [.d (.int .u64 a),.d (.int .u64 b)] [] k 0 (.d (.int .i64 (dJ a b))) []:=(GH a b).sc rfl k
def J2 (a b c:Int):Int:=if a=0 then (if b=0 then c else b) else a
theorem LA (a b c:Int):Go.Sl.Pure Tryz.prog cmp_Or_int.f [.d (.sl 3 [.int .i64 a,.int .i64 b,.int .i64 c])] (i64 (J2 a b c)):=by
 refine cmp_Or_int.enter (by first | rfl | simp [SV.ok,SV.ax]) (by first | rfl | simp [Hp.ok,Ob.ok,SV.ok,SV.ax,aB.ak]) (by simp) ?_;dsimp only [cmp_Or_int.s,Co.M,Co.J,Co.F,Co.Z,Co.T,Co.L,Co.Y,Co.V,Co.I,Co.S];(repeat (first | refine SW.seq ?_ | refine SW.block ?_ | refine SW.g0 [0,2,3,5,6,7,8,9,14] mixed af ?_ | refine SW.skip ?_ | refine SW.exit ?_ | refine SW.ret ?_ | refine SW.aj rfl ?_ | refine SW.ah rfl ?_));refine SW.gY (α:={i:Nat // i≤3∧(1≤i→a=0)∧(2≤i→b=0)∧(3≤i→c=0)}) (fun i=>⟨[(8,i64 i.1),(6,.d (.sl 3 [.int .i64 a,.int .i64 b,.int .i64 c])),(7,i64 3),(3,i64 0)],[],0⟩) (fun i=>3 - i.1) ⟨0,by omega⟩ id af (round:= ?_);rintro ⟨i,hi,ha,hb,hc⟩
 match i,hi,ha,hb,hc with
 | 0,_,_,_,_=>
  rcases h1:(a != 0) with _ | _
  ·(repeat (first | refine SW.seq ?_ | refine SW.block ?_ | refine SW.g0 [0,2,3,5,6,7,8,9,14] mixed (h1) ?_ | refine SW.skip ?_ | refine SW.exit ?_ | refine SW.ret ?_ | refine SW.aj rfl ?_ | refine SW.ah rfl ?_))
   exact Next.mk ⟨1,by omega,fun _=>by simpa using h1,by omega⟩ id af
  ·(repeat (first | refine SW.seq ?_ | refine SW.block ?_ | refine SW.g0 [0,2,3,5,6,7,8,9,14] mixed (h1) ?_ | refine SW.skip ?_ | refine SW.exit ?_ | refine SW.ret ?_ | refine SW.aj rfl ?_ | refine SW.ah rfl ?_))
   exact End.mk [] (h4:=⟨by simp at h1;unfold J2;rw [if_neg h1];rfl,rfl⟩)
 | 1,_,ha,_,_=>
  rcases h1:(b != 0) with _ | _
  ·(repeat (first | refine SW.seq ?_ | refine SW.block ?_ | refine SW.g0 [0,2,3,5,6,7,8,9,14] mixed (h1) ?_ | refine SW.skip ?_ | refine SW.exit ?_ | refine SW.ret ?_ | refine SW.aj rfl ?_ | refine SW.ah rfl ?_))
   exact Next.mk ⟨2,by omega,fun _=>ha (by omega),fun _=>by simpa using h1,by omega⟩ id af
  ·(repeat (first | refine SW.seq ?_ | refine SW.block ?_ | refine SW.g0 [0,2,3,5,6,7,8,9,14] mixed (h1) ?_ | refine SW.skip ?_ | refine SW.exit ?_ | refine SW.ret ?_ | refine SW.aj rfl ?_ | refine SW.ah rfl ?_))
   exact End.mk [] (h4:=⟨by simp at h1;unfold J2;rw [if_pos (ha (by omega)),if_neg h1];rfl,rfl⟩)
 | 2,_,ha,hb,_=>
  rcases h1:(c != 0) with _ | _
  ·(repeat (first | refine SW.seq ?_ | refine SW.block ?_ | refine SW.g0 [0,2,3,5,6,7,8,9,14] mixed (h1) ?_ | refine SW.skip ?_ | refine SW.exit ?_ | refine SW.ret ?_ | refine SW.aj rfl ?_ | refine SW.ah rfl ?_))
   exact Next.mk ⟨3,by omega,fun _=>ha (by omega),fun _=>hb (by omega),fun _=>by simpa using h1⟩ id af
  ·(repeat (first | refine SW.seq ?_ | refine SW.block ?_ | refine SW.g0 [0,2,3,5,6,7,8,9,14] mixed (h1) ?_ | refine SW.skip ?_ | refine SW.exit ?_ | refine SW.ret ?_ | refine SW.aj rfl ?_ | refine SW.ah rfl ?_))
   exact End.mk [] (h4:=⟨by unfold J2;rw [if_pos (ha (by omega)),if_pos (hb (by omega))];rfl,rfl⟩)
 | 3,_,ha,hb,hc=>
  (repeat (first | refine SW.seq ?_ | refine SW.block ?_ | refine SW.g0 [0,2,3,5,6,7,8,9,14] mixed af ?_ | refine SW.skip ?_ | refine SW.exit ?_ | refine SW.ret ?_ | refine SW.aj rfl ?_ | refine SW.ah rfl ?_));exact End.mk [] (h4:=⟨by unfold J2;rw [if_pos (ha (by omega)),if_pos (hb (by omega)),hc (by omega)];rfl,rfl⟩)
theorem LB (a b c:Int)(k:Nat):aF Tryz.prog cmp_Or_int.f [.d (.sl 3 [.int .i64 a,.int .i64 b,.int .i64 c])] [] k 0 (.d (.int .i64 (J2 a b c))) []:=(LA a b c).sc rfl k
theorem A5:∀ (x y z a b c:SV),cN (cN (cN [x,y,z] 0 [a]) 1 [b]) 2 [c]=[a,b,c]:=fun _ _ _ _ _ _=>rfl
theorem Jf (a b:ag):J2 (dJ a.time b.time) (dJ a.dot.r b.dot.r) (dJ a.dot.n b.dot.n)=n_ a b:=by
  unfold n_ J2 dJ
  by_cases h1:a.lt b=true
  · rw [if_pos h1]
    rw [ag.lt_iff] at h1
    repeat' split
    all_goals omega
  · by_cases h2:b.lt a=true
    · rw [if_neg h1,if_pos h2]
      rw [ag.lt_iff] at h1 h2
      repeat' split
      all_goals omega
    · rw [if_neg h1,if_neg h2]
      rw [ag.lt_iff] at h1 h2
      repeat' split
      all_goals omega
theorem zN (a b:ag):Go.Sl.Pure Tryz.prog order_Compare.f [.agg a.cells,.agg b.cells] (i64 (n_ a b)):=by
 rw [← Jf];refine order_Compare.enter (by first | rfl | simp [SV.ok,SV.ax]) (by first | rfl | simp [Hp.ok,Ob.ok,SV.ok,SV.ax,aB.ak]) (by simp) ?_;dsimp only [order_Compare.s,Co.M,Co.J,Co.F,Co.Z,Co.i6,Co.T,Co.P,Co.Q,Co.x,Co.D,Co.S];(repeat (first | refine SW.seq ?_ | refine SW.block ?_ | (refine SW.bT [0,1,2,3,4] mixed ?_;(repeat (first | refine RW.ro (A5) (h:= ?_) | refine RW.skip (h:= ?_) | refine RW.op (A5) (h:= ?_) | refine RW.dD (A5) (h:= ?_) | refine RW.aY (h:= ?_) | (refine RW.aM (h:= ?_);(first | refine ai.mk (A5) (hc:=GI _ _ _) (h:= ?_) | refine ai.mk (A5) (hc:=BP _ _ _) (h:= ?_) | refine ai.mk (A5) (hc:=zj _ _ _) (h:= ?_) | refine ai.mk (A5) (hc:=LB _ _ _ _) (h:= ?_)))));refine RW.nil ⟨by kernel_rfl,aq.mk (h:= ?_)⟩) | refine SW.skip ?_ | refine SW.exit ?_ | refine SW.ret ?_ | refine SW.aj rfl ?_ | refine SW.ah rfl ?_));exact End.mk [] (h4:=⟨rfl,rfl⟩)
theorem zO (a b:ag)(k:Nat):aF Tryz.prog order_Compare.f [.agg a.cells,.agg b.cells] [] k 0 (.d (.int .i64 (n_ a b))) []:=(zN a b).sc rfl k
end
section
attribute [local irreducible] SW RW aF SC ai aq j6 Ac
noncomputable def oR (S:Sh)(o:ag)(e:Dt):Bool:=decide ((S.op e).aH=o.aH) && (S.good e && decide (n_ (S.op e) o<0))
abbrev iH (S:Sh)(X:Ix)(st:aB)(K:KM)(o:ag):Hp:=(14,.box 43 o.cells)::(13,.box 131 [.ptr 0 0])::fH S X st K
theorem J3 (S:Sh)(X:Ix)(st:aB)(K:KM)(o:ag){k:Nat}(hk:15≤k):(iH S X st K o).ok (fun n=>decide (n<k))=true:=
 an (by simp;omega) (by simp [Ob.ok,ag.ak]) (an (by simp;omega) (by simp [Ob.ok,SV.ax,SV.ok];omega) (s8 S X st K (by omega)))
theorem Nf (S:Sh)(X:Ix)(st:aB)(K:KM)(o:ag):∀ i,i<15→lk (iH S X st K o) i≠none:=fun i hi=>by
 match i,hi with
 | 0,_ | 1,_ | 2,_ | 3,_ | 4,_ | 5,_ | 6,_ | 7,_ | 8,_ | 9,_ | 10,_ | 11,_ | 12,_ | 13,_ | 14,_=>simp [aa]
abbrev nF:Sn:=⟨6,7,8,9,10,11,12⟩
theorem Ng {l:List ag}{S:Sh}(h:bR l S)(hs:jv S)(d:Dt)(k:Nat):aF Tryz.prog shape_Shape_Op.f [.ptr 6 0,.agg d.cells] (fT S) k 0 (.dm [.agg (S.op d).cells,bl (MM.has S.ops d)]) (fT S):=
 S.at_ (xQ S hs d) (fun ρ=>by simp [SV.aT,SV.aC,Dt.ay]) (fun ρ=>by simp [SV.aT,SV.aC,ag.ay]) nF (by unfold Sn.ok Sn.nl;decide) k
theorem LC {l:List ag}{S:Sh}(h:bR l S)(hs:jv S)(d:Dt)(k:Nat):aF Tryz.prog shape_Shape_Good.f [.ptr 6 0,.agg d.cells] (fT S) k 0 (bl (S.good d)) (fT S):=ze S h.base.tn hs d nF (by unfold Sn.ok Sn.nl;decide) k
set_option maxHeartbeats 16000000 in
theorem GJ {l:List ag}{S:Sh}(h:bR l S)(hl:l.length≤80)(hs:jv S)(st:aB)(K:KM)(hK:K.ok (eF (iQ st) h.X.bY 10))(o:ag)(e:Dt):
  SB Tryz.prog final_Outcomes_1_1.f [.agg e.cells,.ptr 13 0,.ptr 14 0] (iH S h.X st K o) 15 0 fun r F=>r=bl (oR S o e && !eF (iQ st) h.X.bY 10 e)∧F=iH S h.X st (if oR S o e then og (iQ st) h.X.bY 10 K e else K) o:=by
 refine final_Outcomes_1_1.enter (by simp [SV.ax,SV.ok,Dt.ak]) (J3 S _ st K o (Nat.le_refl 15)) (by simp) ?_;dsimp only [final_Outcomes_1_1.s,Co.M,Co.J,Co.H,Co.F,Co.C,Co.Z,Co.B,Co.bF,Co.T,Co.K,Co.E,Co.Q,Co.x,Co.W,Co.U,Co.D,Co.A,Co.S];have a0:=Gr st 6 2 1;have al:(0+1≤(s7 st 6 2 1).length)=True:=eq_true (by rw [zI];decide);have cO:=Ng h hs e;have cG:=LC h hs e;have cF:=vc (ve S h.X (h.small hl) st h.X.va h.lvl 10 h.oP (h.B5 hl) 10 e K (h.oP e) hK);have cC:=zO (S.op e) o;have hah:oR S o e=(decide ((S.op e).aH=o.aH) && (S.good e && decide (n_ (S.op e) o<0))):=rfl;rw [hah];clear hah;generalize og (iQ st) h.X.bY 10 K e=K2 at cF ⊢;generalize eF (iQ st) h.X.bY 10 e=bf at cF ⊢;generalize S.good e=bg at cG ⊢;generalize MM.has S.ops e=bh at cO;obtain ⟨q,hq⟩:∃ q,S.op e=q:=⟨_,rfl⟩;rw [hq] at cO cC ⊢;generalize n_ q o=z at cC ⊢;have o12:List.take 2 (List.drop 12 o.cells)=o.aH.cells:=rfl;have q12:List.take 2 (List.drop 12 q.cells)=q.aH.cells:=rfl;have hokI:∀ K',(iH S h.X st K' o).ok (fun n=>decide (n<15+0))=true:=fun K'=>J3 S _ st K' o (Nat.le_refl 15)
 dsimp only [iH,fH,fT];refine SW.seq ?_;refine SW.g0 [0,1,2,3,4,5] mixed af ?_;refine SW.seq ?_;refine SW.g1 [0,1,2,3,4,5] mixed (And.intro (a0) (al)) cO ?_;refine SW.seq ?_;cases h1:decide (q.aH=o.aH) with
 | false=>
  refine SW.g0 [0,1,2,3,4,5] mixed (And.intro (o12) (And.intro (q12) (h1))) ?_;refine SW.ret ?_;exact End.mk (iH S h.X st K o) (h4:=⟨rfl,rfl⟩) (h6:=hokI K)
 | true=>
  cases bg with
  | false=>
   refine SW.g1 [0,1,2,3,4,5] mixed (And.intro (a0) (And.intro (al) (And.intro (o12) (And.intro (q12) (h1))))) cG ?_;refine SW.ret ?_;exact End.mk (iH S h.X st K o) (h4:=⟨rfl,rfl⟩) (h6:=hokI K)
  | true=>
   cases h3:decide (z<0) with
   | false=>
    refine SW.g2 [0,1,2,3,4,5] mixed (And.intro (a0) (And.intro (al) (And.intro (o12) (And.intro (q12) (And.intro (h1) (h3)))))) cG cC ?_;refine SW.ret ?_;exact End.mk (iH S h.X st K o) (h4:=⟨rfl,rfl⟩) (h6:=hokI K)
   | true=>
    refine SW.g4 [0,1,2,3,4,5] mixed (And.intro (a0) (And.intro (al) (And.intro (o12) (And.intro (q12) (And.intro (h1) (h3)))))) cG cC cF trivial ?_;refine SW.ret ?_;exact End.mk (iH S h.X st K2 o) (h4:=⟨by cases bf <;> rfl,rfl⟩) (h6:=hokI K2)
end
end Go.Proofs.YtaelhkkjgfobhaaGreat
