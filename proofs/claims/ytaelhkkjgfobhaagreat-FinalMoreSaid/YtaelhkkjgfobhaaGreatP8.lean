/-
 Final: whose outcomes are final: the question.
-/
import Derived.Test.YtaelhkkjgfobhaaGreatP6
import Derived.Test.YtaelhkkjgfobhaaGreatP7
set_option linter.unusedSectionVars false
set_option linter.unusedVariables false
set_option linter.unusedSimpArgs false
namespace Go.Proofs.YtaelhkkjgfobhaaGreat
open Go.Sl Go.Proofs
section
attribute [local irreducible] SW RW aF SC aj ak jl wN
theorem yz {σ:Type}(f:σ→Dt→σ)(p:Dt→Bool):∀ (l:List Dt) (s:σ),(dy (fun s x=>(f s x,p x)) s l).1.isSome=l.any p
 | [],s=>rfl
 | x ::l,s=>by
  simp only [dy,List.any_cons];cases hp:p x with
  | true=>rfl
  | false=>
   simp only [Bool.false_or,Bool.false_eq_true,if_false];rw [← yz f p l (f s x)];cases (dy (fun s x=>(f s x,p x)) (f s x) l).1 <;> rfl
theorem yA {σ:Type}{f:σ→Dt→σ}{p:Dt→Bool}{inv:σ→Prop}(h:∀ s x,inv s→inv (f s x)):∀ (l:List Dt) (s:σ),inv s→inv (dy (fun s x=>(f s x,p x)) s l).2
 | [],s,hs=>hs
 | x::l,s,hs=>by
  simp only [dy]
  split
  ·exact h s x hs
  ·exact yA h l _ (h s x hs)
noncomputable abbrev mB {l:List ag}{S:Sh}(h:bI l S)(st:av):Dt→Bool:=dS (gJ st) h.X.bN 10
noncomputable abbrev ug {l:List ag}{S:Sh}(h:bI l S)(st:av):KM→Dt→KM:=mP (gJ st) h.X.bN 10
noncomputable def E_ {l:List ag}{S:Sh}(h:bI l S)(st:av)(o:ag)(K:KM)(e:Dt):KM:=if nr S o e then ug h st K e else K
noncomputable def zA {l:List ag}{S:Sh}(h:bI l S)(st:av)(o:ag)(e:Dt):Bool:=nr S o e && !mB h st e
noncomputable def BV {l:List ag}{S:Sh}(h:bI l S)(st:av)(o:ag)(K:KM)(ds:List Dt):KM:=(dy (fun K e=>(E_ h st o K e,zA h st o e)) K ds).2
section
variable {l:List ag} {S:Sh} (h:bI l S) (hl:l.length≤80) (hs:iD S) (st:av)
theorem Fa (o:ag)(K:KM)(e:Dt)(hK:K.ok (mB h st)):(E_ h st o K e).ok (mB h st):=by
 unfold E_
 split
 ·exact (oy h.lvl h.nq 10 K e (h.nq e) hK).1
 ·exact hK
abbrev iG (S:Sh)(X:Ix)(st:av)(K:KM)(o:ag):Hp:=(17,.box 43 o.cells)::(13,.box 131 [.ptr 0 0])::fH S X st K
theorem zB (S:Sh)(X:Ix)(st:av)(K:KM)(o:ag)(q:Nat→Bool)(Nf:q 17=true)(LI:q 13=true)(h0:q 0=true)(h:(fH S X st K).ok q=true):(iG S X st K o).ok q=true:=ah Nf (by simp [Ob.ok,ag.an]) (ah LI (by simp [Ob.ok,SV.aA,SV.ok,h0]) h)
theorem zC (S:Sh)(X:Ix)(st:av)(K:KM)(q:Nat→Bool)(h:∀ n,n<13→q n=true):(fH S X st K).ok q=true:=by
 refine ah (h 0 (by decide)) (wE _ _ _ _ _ ⟨h 6 (by decide),h 2 (by decide),h 1 (by decide)⟩) (ah (h 1 (by decide)) (mA _ _) (ah (h 2 (by decide)) (by simp [Ob.ok,SV.aA,SV.ok,h 3,h 4,h 5]) (ah (h 3 (by decide)) (aS _ _) (ah (h 4 (by decide)) (dO _ _) (ah (h 5 (by decide)) (dO _ _) ?_)))))
 refine ah (h 6 (by decide)) (by simp [Ob.ok,SV.aA,SV.ok,h 7,h 8,h 9,h 10]) (ah (h 7 (by decide)) (aS _ _) (ah (h 8 (by decide)) (bw _ _) (ah (h 9 (by decide)) (h_ _ _) (ah (h 10 (by decide)) (by simp [Ob.ok,SV.aA,SV.ok,h 11,h 12]) (ah (h 11 (by decide)) (gj _ _) (ah (h 12 (by decide)) (aS _ _) rfl))))))
theorem Mm (S:Sh)(X:Ix)(st:av)(K K':KM)(o:ag)(q:Nat→Bool)(h:(iG S X st K o).ok q=true):(iG S X st K' o).ok q=true:=by
 simp only [Hp.ok,List.all_cons,Ob.ok,mA] at h ⊢;exact h
theorem Lo (S:Sh)(X:Ix)(st:av)(K:KM)(o:ag):(iG S X st K o).ok (fun m=>(lk (iG S X st K o) m).isSome)=true:=
 zB S X st K o _ rfl rfl rfl (zC S X st K _ fun n hn=>by
  match n,hn with
  | 0,_ | 1,_ | 2,_ | 3,_ | 4,_ | 5,_ | 6,_ | 7,_ | 8,_ | 9,_ | 10,_ | 11,_ | 12,_=>rfl)
include hl hs in
theorem BW (o:ag):rz Tryz.prog final_Outcomes_1_1.f [] [.ptr 13 0,.ptr 17 0] (fun K=>iG S h.X st K o) (fun K e=>(E_ h st o K e,zA h st o e)) 0 (fun _ K=>K.ok (mB h st)) (fun _=>True) 1000000000 where
 nd K:=by simp
 nm K e:=rfl
 nx _ K e hK _ _:=Fa h st o K e hK
 ok K e q hq:=Mm S _ st K _ o q hq
 call i K e k hK _ _ _:=by
  have:=SB.nI [0,1,2,3,4,5,6,7,8,9,10,11,12,13,17] (E9 h hl hs st K hK o e) (by decide) (fun i hi=>Lm S h.X st K o i (by simpa using hi)) k
  have e1:∀ K,(iH S h.X st K o).aB (eN [0,1,2,3,4,5,6,7,8,9,10,11,12,13,17] k)=iG S h.X st K o:=fun K=>by
   simp [Hp.aB,Ob.aB,SV.aK,SV.aB,eN,kC,jm,bz,dX,bV,dI,dg,ag.ax]
  rw [e1,e1] at this;rw [show bl (zA h st o e)=bl (nr S o e && !dS (gJ st) h.X.bN 10 e) from rfl,show E_ h st o K e=if nr S o e then mP (gJ st) h.X.bN 10 K e else K from rfl]
  simpa [SV.aK,SV.aB,eN,Dt.ax] using this
 a1 K q hq:=by
  simp only [Hp.ok,List.all_cons,Bool.and_eq_true] at hq;exact ⟨rfl,by simp [SV.aA,SV.ok,hq.1.1,hq.2.1.1]⟩
include hl hs in
set_option maxHeartbeats 8000000 in
theorem yB (o:ag)(K:KM)(hK:K.ok (mB h st))(ds:List Dt)(hds:ds.length≤80):aF Tryz.prog slices_ContainsFunc_Lapi_Dot_api_Dot.f [.gs 14 ds.length,.fn (.func final_Outcomes_1_1.f) [] [.ptr 13 0,.ptr 17 0]] ((14,mL ds 14)::iG S h.X st K o) 18 0 (bl (ds.any (zA h st o))) ((14,mL ds 14)::iG S h.X st (BV h st o K ds) o):=by
 have hd:=BW h hl hs st o;have kU:=Lo S h.X st K o;have hok:∀ K,(iG S h.X st K o).ok (fun n=>decide (n<18))=true:=fun K=>zB S _ st K o _ rfl rfl rfl (zC S _ st K _ fun n hn=>by simp;omega)
 have cI:=vl hd ds K (by omega) (by omega) (fun _ _=>trivial) hK 14 18 (by decide) ⟨rfl,hok K,rfl⟩ kU
 have hany:=yz (E_ h st o) (zA h st o) ds K;rw [← hany];have hKs:(dy (fun K e=>(E_ h st o K e,zA h st o e)) K ds).2=BV h st o K ds:=rfl
 rw [hKs] at cI;generalize BV h st o K ds=K2 at cI ⊢;have hsb:SB Tryz.prog slices_ContainsFunc_Lapi_Dot_api_Dot.f [.gs 14 ds.length,.fn (.func final_Outcomes_1_1.f) [] [.ptr 13 0,.ptr 17 0]] ((14,mL ds 14)::iG S h.X st K o) 18 0 fun r F=>r=bl (dy (fun K e=>(E_ h st o K e,zA h st o e)) K ds).1.isSome∧F=(14,mL ds 14)::iG S h.X st K2 o:=by
  refine slices_ContainsFunc_Lapi_Dot_api_Dot.enter (by simp [SV.aA,SV.ok]) (ah (by decide) (SV.aT _) (hok K)) (by simp) ?_
  dsimp only [slices_ContainsFunc_Lapi_Dot_api_Dot.s,Co.M,Co.G,Co.J,Co.H,Co.N,Co.F,Co.C,Co.Z,Co.B,Co.b8,Co.ay,Co.bU,Co.i6,Co.z8,Co.cq];have hidx:∃ z:Int,vU (dy (fun K e=>(E_ h st o K e,zA h st o e)) K ds).1= .d (.int .i64 z)∧decide (z≥0)=(dy (fun K e=>(E_ h st o K e,zA h st o e)) K ds).1.isSome:=by
   cases (dy (fun K e=>(E_ h st o K e,zA h st o e)) K ds).1 with
   | none=>exact ⟨-1,rfl,rfl⟩
   | some i=>exact ⟨(i:Int),rfl,by simp⟩
  obtain ⟨z,hz,hz2⟩:=hidx;rw [hz] at cI;rw [← hz2];refine SW.seq ?_;refine SW.g0 [0,1,4] mixed af ?_;refine SW.seq ?_;simp only [Nat.mul_zero] at cI
  (refine SW.dL [0,1,4] mixed ?_;(repeat (first | refine RW.ro af (h:= ?_) | refine RW.skip (h:= ?_) | refine RW.op af (h:= ?_) | refine RW.d_ af (h:= ?_) | refine RW.bJ (h:= ?_) | (refine RW.bu (h:= ?_);(first | refine aj.mk af (hs:=(fun _ _ h=>h)) (hc:=cI) (h:= ?_)))));refine RW.nil ⟨eA (by kernel_rfl),ak.mk (h:= ?_)⟩)
  refine SW.ret ?_;exact End.mk ((14,mL ds 14)::iG S h.X st K2 o) (h4:=⟨rfl,rfl⟩) (h6:=ah (by decide) (SV.aT _) (hok K2))
 have hq:∀ K',Hp.ok (fun m=>(lk ((14,mL ds 14)::iG S h.X st K o) m).isSome) ((14,mL ds 14)::iG S h.X st K' o)=true:=fun K'=>ah rfl (SV.aT _) (zB S h.X st K' o _ rfl rfl rfl (zC S h.X st K' _ fun n hn=>by
  match n,hn with
  | 0,_ | 1,_ | 2,_ | 3,_ | 4,_ | 5,_ | 6,_ | 7,_ | 8,_ | 9,_ | 10,_ | 11,_ | 12,_=>rfl))
 unfold aF;refine hsb.here (fun m=>(lk ((14,mL ds 14)::iG S h.X st K o) m).isSome) (fun m hm e=>by rw [e] at hm;cases hm) (by simp [SV.aA,SV.ok,aa]) (hq K) ?_
 rintro r F ⟨rfl,rfl⟩ _ _;refine ⟨rfl,Hp.dN (fun m hm=> ?_) (hq K2)⟩
 rw [Bool.or_eq_true];exact .inl hm
noncomputable def Fb (h:bI l S)(st:av)(ds:List Dt)(K:KM)(d:Dt):KM:=if mB h st d then BV h st (S.op d) (ug h st K d) ds else ug h st K d
noncomputable def Fc (h:bI l S)(st:av)(ds:List Dt)(d:Dt):Bool:=mB h st d && !ds.any (zA h st (S.op d))
omit hl hs in
theorem Hj (ds:List Dt)(K:KM)(d:Dt)(hK:K.ok (mB h st)):(Fb h st ds K d).ok (mB h st):=by
 have h1:=(oy (pE:=gJ st) h.lvl h.nq 10 K d (h.nq d) hK).1;unfold Fb
 split
 ·exact yA (inv:=fun K=>K.ok (mB h st)) (fun K e hK=>Fa h st _ K e hK) ds _ h1
 ·exact h1
abbrev mH (S:Sh)(X:Ix)(st:av)(K:KM)(ds:List Dt):Hp:=(15,.box 31 [.gs 14 ds.length])::(14,mL ds 14)::(13,.box 131 [.ptr 0 0])::fH S X st K
theorem Ig (S:Sh)(X:Ix)(st:av)(K:KM)(ds:List Dt){k:Nat}(hk:16≤k):(mH S X st K ds).ok (fun n=>decide (n<k))=true:=
 ah (by simp;omega) (by simp [Ob.ok,SV.aA,SV.ok];omega) (ah (by simp;omega) (SV.aT _) (ah (by simp;omega) (by simp [Ob.ok,SV.aA,SV.ok];omega) (rN S X st K (by omega))))
theorem Lp (S:Sh)(X:Ix)(st:av)(K:KM)(ds:List Dt):∀ i,i<16→lk (mH S X st K ds) i≠none:=fun i hi=>by
 have:i=0∨i=1∨i=2∨i=3∨i=4∨i=5∨i=6∨i=7∨i=8∨i=9∨i=10∨i=11∨i=12∨i=13∨i=14∨i=15:=by omega
 rcases this with rfl | rfl | rfl | rfl | rfl | rfl | rfl | rfl | rfl | rfl | rfl | rfl | rfl | rfl | rfl | rfl <;> simp [aa]
include hl hs in
set_option maxHeartbeats 16000000 in
theorem Hl (ds:List Dt)(hds:ds.length≤80)(K:KM)(hK:K.ok (mB h st))(d:Dt):
  SB Tryz.prog final_Outcomes_1.f [.agg d.cells,.ptr 13 0,.ptr 15 0] (mH S h.X st K ds) 16 0 fun r F=>r=bl (Fc h st ds d)∧F=mH S h.X st (Fb h st ds K d) ds:=by
 refine final_Outcomes_1.enter (by simp [SV.aA,SV.ok,Dt.an]) (Ig S _ st K ds (Nat.le_refl 16)) (by simp) ?_
 dsimp only [final_Outcomes_1.s,Co.M,Co.G,Co.J,Co.H,Co.N,Co.F,Co.C,Co.Z,Co.B,Co.b8,Co.ay,Co.bU,Co.i6,Co.z8,Co.cq];have a0:=ER st 6 2 1;have al:(0+1≤(rM st 6 2 1).length)=True:=eq_true (by rw [yp];decide)
 have cO:=Ln h hs d;have cF:=tF (tG S h.X (h.small hl) st h.X.tD h.lvl 10 h.nq (h.AM hl) 10 d K (h.nq d) hK);have hK1:(ug h st K d).ok (mB h st):=(oy h.lvl h.nq 10 K d (h.nq d) hK).1;have cC:=yB h hl hs st (S.op d) (ug h st K d) hK1 ds hds;have hP:Fc h st ds d=(mB h st d && !ds.any (zA h st (S.op d))):=rfl;have hO:Fb h st ds K d=if mB h st d then BV h st (S.op d) (ug h st K d) ds else ug h st K d:=rfl
 rw [hP,hO];clear hP hO;generalize BV h st (S.op d) (ug h st K d) ds=K2 at cC ⊢;generalize ds.any (zA h st (S.op d))=ba at cC ⊢;change ∀ k,aF Tryz.prog final_asker_final.f [.ptr 0 0,.agg d.cells] (fH S h.X st K) k 0 (bl (mB h st d)) (fH S h.X st (ug h st K d)) at cF;generalize ug h st K d=K1 at cF cC ⊢;generalize mB h st d=bf at cF ⊢;generalize MM.has S.ops d=bh at cO;generalize S.op d=o at cO cC;have hokM:∀ K',(mH S h.X st K' ds).ok (fun n=>decide (n<16+0))=true:=fun K'=>Ig S _ st K' ds (Nat.le_refl 16)
 dsimp only [mH,fH,fT];refine SW.seq ?_;refine SW.g0 [0,1,2,3,4,5] mixed af ?_;refine SW.seq ?_;refine SW.g1 [0,1,2,3,4,5] mixed (And.intro (a0) (al)) cO ?_;refine SW.seq ?_;cases bf with
 | false=>
  refine SW.g1 [0,1,2,3,4,5] mixed af cF ?_;refine SW.ret ?_;exact End.mk (mH S h.X st K1 ds) (h4:=⟨rfl,rfl⟩) (h6:=hokM K1)
 | true=>
  refine SW.g2 [0,1,2,3,4,5] mixed af cF cC ?_;refine SW.ret ?_;exact End.mk (mH S h.X st K2 ds) (h4:=⟨by cases ba <;> rfl,rfl⟩) (h6:=hokM K2)
end
end
section
attribute [local irreducible] SW RW aF SC aj ak jl wN
noncomputable def tJ (l:List ag)(d e:Dt):Bool:=decide ((tQ l e).aR=(tQ l d).aR) && (gU l e && decide (xz (tQ l e) (tQ l d)<0))
noncomputable def zD (l:List ag)(st:av)(d:Dt):Bool:=mQ l st d && !(fJ l).any fun e=>tJ l d e && !mQ l st e
theorem Ho {l:List ag}{S:Sh}(h:bI l S)(st:av):Fc h st (fJ l)=zD l st:=by
 funext d
 have e:mB h st=mQ l st:=by unfold mB mQ;rw [h.su]
 have e2:zA h st (S.op d)=fun e=>tJ l d e && !mQ l st e:=by
  funext x
  unfold zA nr tJ;rw [e,h.AH,h.base.op,h.base.op]
 unfold Fc zD;rw [e,e2]
abbrev oH (S:Sh)(X:Ix)(st:av)(K:KM)(ds:List Dt):Hp:=(22,.box 31 [.gs 21 ds.length])::(21,mL ds 21)::(19,.box 131 [.ptr 18 0])::yu S X st K
theorem zF (S:Sh)(X:Ix)(st:av)(K:KM)(ds:List Dt)(q:Nat→Bool)(h:∀ n,n∈22::21::19::J3→q n=true):(oH S X st K ds).ok q=true:=
 ah (h 22 (by decide)) (by simp [Ob.ok,SV.aA,SV.ok,h 21]) (ah (h 21 (by decide)) (SV.aT _) (ah (h 19 (by decide)) (by simp [Ob.ok,SV.aA,SV.ok,h 18]) (sr S X st K q fun n hn=>h n (List.mem_cons_of_mem _ (List.mem_cons_of_mem _ (List.mem_cons_of_mem _ hn))))))
theorem Mn (S:Sh)(X:Ix)(st:av)(K K':KM)(ds:List Dt)(q:Nat→Bool)(h:(oH S X st K ds).ok q=true):(oH S X st K' ds).ok q=true:=by
 simp only [Hp.ok,List.all_cons,Ob.ok,mA] at h ⊢;exact h
theorem Ng {l:List ag}{S:Sh}(h:bI l S)(hl:l.length≤80)(hs:iD S)(st:av)(ds:List Dt)(hds:ds.length≤80):G9 Tryz.prog final_Outcomes_1.f [] [.ptr 19 0,.ptr 22 0] (fun K=>oH S h.X st K ds) (Fb h st ds) (Fc h st ds) 0 (KM.ok (mB h st)) where
 nd K:=by simp
 nm K K':=rfl
 step K d hK:=Hj h st ds K d hK
 ok K d q hq:=Mn S _ st K _ ds q hq
 call K d k hK _:=by
  have:=SB.nI (J3++[19,21,22]) (Hl h hl hs st ds hds K hK d) (by decide) (fun i hi=>Lp S h.X st K ds i (by simpa using hi)) k
  have e:∀ K,(mH S h.X st K ds).aB (eN (J3++[19,21,22]) k)=oH S h.X st K ds:=fun K=>by
   simp [Hp.aB,Ob.aB,SV.aK,SV.aB,eN,kC,jm,bz,dX,bV,dI,dg,SV.fP]
  rw [e,e] at this
  simpa [SV.aK,SV.aB,eN,Dt.ax] using this
 a1 K q hq:=by
  simp only [Hp.ok,List.all_cons,Bool.and_eq_true] at hq;exact ⟨rfl,by simp [SV.aA,SV.ok,hq.1.1,hq.2.2.1.1]⟩
 cl K:=zF S _ st K ds _ fun n hn=>by
  simp only [List.mem_cons,List.not_mem_nil,or_false] at hn;rcases hn with rfl | rfl | rfl | rfl | rfl | rfl | rfl | rfl | rfl | rfl | rfl | rfl | rfl | rfl | rfl | rfl <;> rfl
theorem Fe (S:Sh)(X:Ix)(st:av)(K:KM)(ds:List Dt):HSub (AN S) (oH S X st K ds):=by
 refine HSub.cons ?_ (HSub.cons ?_ (HSub.cons ?_ (HSub.cons ?_ (HSub.cons ?_ (HSub.cons ?_ (HSub.cons ?_ (HSub.nil _))))))) <;> rfl
theorem Hq (S:Sh)(X:Ix)(st:av)(K:KM)(ds:List Dt)(o:Ob):bM false (oH S X st K ds) (AN S) ((25,o)::AN S)=(25,o)::oH S X st K ds:=by
 simp only [bM,bS,bT,e_,eZ,dh,lk,List.lookup,Nat.reduceBEq,BEq.rfl,beq_self_eq_true,if_true,if_false,reduceIte,Nat.reduceEqDiff,Bool.false_eq_true,Option.isSome_some,Option.isSome_none]
theorem Hr {l:List ag}{S:Sh}(h:bI l S)(hl:l.length≤80)(st:av)(K:KM)(ds:List Dt):aF Tryz.prog shape_Shape_Dots.f [.ptr 12 0] (oH S h.X st K ds) 24 2 (.gs 25 (fJ l).length) ((25,mL (fJ l) 25)::oH S h.X st K ds):=by
 have h1:=SB.nI [12,9,10,11,4,2,3] (vm S h.base.ops.wf (by have:=h.gY;omega)) (by decide) (fun i hi=>S.Ap i hi) 24
 rw [h.wm] at h1;show aF _ _ _ _ _ _ (.gs 25 (Dt.set (l.map (·.dot))).length) ((25,mL (Dt.set (l.map (·.dot))) 25)::_)
 generalize Dt.set (l.map (·.dot))=D at h1 ⊢
 have e1:S.h0.aB (eN [12,9,10,11,4,2,3] 24)=AN S:=by simp [Hp.aB,Ob.aB,SV.aK,SV.aB,eN,bz,bV,dI,dg]
 have e2:Hp.aB (eN [12,9,10,11,4,2,3] 24) ((8,mL D 8)::S.h0)=(25,mL D 25)::AN S:=by
  rw [← e1];simp [Hp.aB,Ob.aB,eN,SV.fP]
 rw [e1,e2] at h1;have h2:aF Tryz.prog shape_Shape_Dots.f [.ptr 12 0] (AN S) 24 2 (.gs 25 D.length) ((25,mL D 25)::AN S):=h1;unfold aF at h2 ⊢;have h3:=SC.frame h2 (Fe S h.X st K ds);refine SC.mono h3 fun r F hh=> ?_
 obtain ⟨F1,⟨h4,h5⟩,h6⟩:=hh;rw [h5,Hq] at h6;exact ⟨h4,h6⟩
theorem Ff {l:List ag}{S:Sh}(h:bI l S)(hl:l.length≤80)(hs:iD S)(st:av):SC Tryz.prog final_asker_some.f [.ptr 18 0,.fn (.func final_Outcomes_1.f) [] [.ptr 19 0,.ptr 22 0]] (oH S h.X st ⟨[],0⟩ (fJ l)) 23 (3+((fJ l).length*(1+0)+(fJ l).length*(1+0+1))) fun r F=>∃ K',r= .gs 25 ((fJ l).filter (zD l st)).length∧F=(25,mL ((fJ l).filter (zD l st)) 25)::oH S h.X st K' (fJ l):=by
 have hds:(fJ l).length≤80:=h.jP hl;have hO:=Ng h hl hs st (fJ l) hds;have kU:=hO.cl ⟨[],0⟩;have:=(AJ hO ⟨[],0⟩ (KM.yJ _) 18 12 16 17 st (fJ l) (by omega) 23 (zF S _ st _ _ _ (by decide)) rfl (Hr h hl st _ _) (fun K n hn=>fz (by simp;omega))).here (fun n=>(lk (oH S h.X st ⟨[],0⟩ (fJ l)) n).isSome) (fun n hn e=>by rw [e] at hn;cases hn) (by simp [SV.aA,SV.ok,aa]) kU (by
  rintro r F ⟨K',_,rfl,rfl⟩ _ _;refine ⟨by simp [SV.ok];right;omega,ah (by simp;right;omega) (SV.aT _) (zF S _ st _ _ _ fun n hn=> ?_)⟩
  rw [Bool.or_eq_true];left;simp only [List.mem_cons,List.not_mem_nil,or_false] at hn;rcases hn with rfl | rfl | rfl | rfl | rfl | rfl | rfl | rfl | rfl | rfl | rfl | rfl | rfl | rfl | rfl | rfl <;> rfl)
 refine SC.mono this ?_;rintro r F ⟨K',_,rfl,rfl⟩;rw [Ho];exact ⟨K',rfl,rfl⟩
end
end Go.Proofs.YtaelhkkjgfobhaaGreat
