/-
 Final: whose outcomes are final: the question.
-/
import Derived.Test.YtaelhkkjgfobhaaGreatU6
import Derived.Test.YtaelhkkjgfobhaaGreatU7
set_option linter.unusedSectionVars false
set_option linter.unusedVariables false
set_option linter.unusedSimpArgs false
namespace Go.Proofs.YtaelhkkjgfobhaaGreat
open Go.Sl Go.Proofs
section
attribute [local irreducible] SW RW aG SC ai aq jQ zc
theorem zo {σ:Type}(f:σ→Dt→σ)(p:Dt→Bool):∀ (l:List Dt) (s:σ),(dM (fun s x=>(f s x,p x)) s l).1.isSome=l.any p
 | [],s=>rfl
 | x ::l,s=>by
  simp only [dM,List.any_cons];cases hp:p x with
  | true=>rfl
  | false=>
   simp only [Bool.false_or,Bool.false_eq_true,if_false];rw [← zo f p l (f s x)];cases (dM (fun s x=>(f s x,p x)) (f s x) l).1 <;> rfl
theorem zp {σ:Type}{f:σ→Dt→σ}{p:Dt→Bool}{inv:σ→Prop}(h:∀ s x,inv s→inv (f s x)):∀ (l:List Dt) (s:σ),inv s→inv (dM (fun s x=>(f s x,p x)) s l).2
 | [],s,hs=>hs
 | x::l,s,hs=>by
  simp only [dM]
  split
  ·exact h s x hs
  ·exact zp h l _ (h s x hs)
noncomputable abbrev nL {l:List ag}{S:Sh}(h:bP l S)(st:aB):Dt→Bool:=eB (iI st) h.X.bU 10
noncomputable abbrev vo {l:List ag}{S:Sh}(h:bP l S)(st:aB):KM→Dt→KM:=n9 (iI st) h.X.bU 10
noncomputable def Gi {l:List ag}{S:Sh}(h:bP l S)(st:aB)(o:ag)(K:KM)(e:Dt):KM:=if oM S o e then vo h st K e else K
noncomputable def AG {l:List ag}{S:Sh}(h:bP l S)(st:aB)(o:ag)(e:Dt):Bool:=oM S o e && !nL h st e
noncomputable def CT {l:List ag}{S:Sh}(h:bP l S)(st:aB)(o:ag)(K:KM)(ds:List Dt):KM:=(dM (fun K e=>(Gi h st o K e,AG h st o e)) K ds).2
section
variable {l:List ag} {S:Sh} (h:bP l S) (hl:l.length≤80) (hs:ji S) (st:aB)
theorem Gj (o:ag)(K:KM)(e:Dt)(hK:K.ok (nL h st)):(Gi h st o K e).ok (nL h st):=by
 unfold Gi
 split
 ·exact (pL h.lvl h.oL 10 K e (h.oL e) hK).1
 ·exact hK
abbrev iG (S:Sh)(X:Ix)(st:aB)(K:KM)(o:ag):Hp:=(17,.box 43 o.cells)::(13,.box 131 [.ptr 0 0])::fH S X st K
theorem AH (S:Sh)(X:Ix)(st:aB)(K:KM)(o:ag)(q:Nat→Bool)(OM:q 17=true)(M5:q 13=true)(h0:q 0=true)(h:(fH S X st K).ok q=true):(iG S X st K o).ok q=true:=an OM (by simp [Ob.ok,ag.aj]) (an M5 (by simp [Ob.ok,SV.ay,SV.ok,h0]) h)
theorem AI (S:Sh)(X:Ix)(st:aB)(K:KM)(q:Nat→Bool)(h:∀ n,n<13→q n=true):(fH S X st K).ok q=true:=by
 refine an (h 0 (by decide)) (xM _ _ _ _ _ ⟨h 6 (by decide),h 2 (by decide),h 1 (by decide)⟩) (an (h 1 (by decide)) (nJ _ _) (an (h 2 (by decide)) (by simp [Ob.ok,SV.ay,SV.ok,h 3,h 4,h 5]) (an (h 3 (by decide)) (a_ _ _) (an (h 4 (by decide)) (ew _ _) (an (h 5 (by decide)) (ew _ _) ?_)))))
 refine an (h 6 (by decide)) (by simp [Ob.ok,SV.ay,SV.ok,h 7,h 8,h 9,h 10]) (an (h 7 (by decide)) (a_ _ _) (an (h 8 (by decide)) (bG _ _) (an (h 9 (by decide)) (iX _ _) (an (h 10 (by decide)) (by simp [Ob.ok,SV.ay,SV.ok,h 11,h 12]) (an (h 11 (by decide)) (gL _ _) (an (h 12 (by decide)) (a_ _ _) rfl))))))
theorem NN (S:Sh)(X:Ix)(st:aB)(K K':KM)(o:ag)(q:Nat→Bool)(h:(iG S X st K o).ok q=true):(iG S X st K' o).ok q=true:=by
 simp only [Hp.ok,List.all_cons,Ob.ok,nJ] at h ⊢;exact h
theorem MJ (S:Sh)(X:Ix)(st:aB)(K:KM)(o:ag):(iG S X st K o).ok (fun m=>(lk (iG S X st K o) m).isSome)=true:=
 AH S X st K o _ rfl rfl rfl (AI S X st K _ fun n hn=>by
  match n,hn with
  | 0,_ | 1,_ | 2,_ | 3,_ | 4,_ | 5,_ | 6,_ | 7,_ | 8,_ | 9,_ | 10,_ | 11,_ | 12,_=>rfl)
include hl hs in
theorem CU (o:ag):su Tryz.prog final_Outcomes_1_1.f [] [.ptr 13 0,.ptr 17 0] (fun K=>iG S h.X st K o) (fun K e=>(Gi h st o K e,AG h st o e)) 0 (fun _ K=>K.ok (nL h st)) (fun _=>True) 1000000000 where
 nd K:=by simp
 nm K e:=rfl
 nx _ K e hK _ _:=Gj h st o K e hK
 ok K e q hq:=NN S _ st K _ o q hq
 call i K e k hK _ _ _:=by
  have:=SB.o8 [0,1,2,3,4,5,6,7,8,9,10,11,12,13,17] (Gh h hl hs st K hK o e) (by decide) (fun i hi=>MH S h.X st K o i (by simpa using hi)) k
  have e1:∀ K,(iH S h.X st K o).aC (fq [0,1,2,3,4,5,6,7,8,9,10,11,12,13,17] k)=iG S h.X st K o:=fun K=>by
   simp [Hp.aC,Ob.aC,SV.aT,SV.aC,fq,lF,jP,bH,eG,cg,dV,dB,ag.av]
  rw [e1,e1] at this;rw [show bl (AG h st o e)=bl (oM S o e && !eB (iI st) h.X.bU 10 e) from rfl,show Gi h st o K e=if oM S o e then n9 (iI st) h.X.bU 10 K e else K from rfl]
  simpa [SV.aT,SV.aC,fq,Dt.av] using this
 a1 K q hq:=by
  simp only [Hp.ok,List.all_cons,Bool.and_eq_true] at hq;exact ⟨rfl,by simp [SV.ay,SV.ok,hq.1.1,hq.2.1.1]⟩
include hl hs in
set_option maxHeartbeats 8000000 in
theorem zq (o:ag)(K:KM)(hK:K.ok (nL h st))(ds:List Dt)(hds:ds.length≤80):aG Tryz.prog slices_ContainsFunc_Lapi_Dot_api_Dot.f [.gs 14 ds.length,.fn (.func final_Outcomes_1_1.f) [] [.ptr 13 0,.ptr 17 0]] ((14,nU ds 14)::iG S h.X st K o) 18 0 (bl (ds.any (AG h st o))) ((14,nU ds 14)::iG S h.X st (CT h st o K ds) o):=by
 have hd:=CU h hl hs st o;have lg:=MJ S h.X st K o;have hok:∀ K,(iG S h.X st K o).ok (fun n=>decide (n<18))=true:=fun K=>AH S _ st K o _ rfl rfl rfl (AI S _ st K _ fun n hn=>by simp;omega)
 have cI:=wE hd ds K (by omega) (by omega) (fun _ _=>trivial) hK 14 18 (by decide) ⟨rfl,hok K,rfl⟩ lg
 have hany:=zo (Gi h st o) (AG h st o) ds K;rw [← hany];have hKs:(dM (fun K e=>(Gi h st o K e,AG h st o e)) K ds).2=CT h st o K ds:=rfl
 rw [hKs] at cI;generalize CT h st o K ds=K2 at cI ⊢;have hsb:SB Tryz.prog slices_ContainsFunc_Lapi_Dot_api_Dot.f [.gs 14 ds.length,.fn (.func final_Outcomes_1_1.f) [] [.ptr 13 0,.ptr 17 0]] ((14,nU ds 14)::iG S h.X st K o) 18 0 fun r F=>r=bl (dM (fun K e=>(Gi h st o K e,AG h st o e)) K ds).1.isSome∧F=(14,nU ds 14)::iG S h.X st K2 o:=by
  refine slices_ContainsFunc_Lapi_Dot_api_Dot.enter (by simp [SV.ay,SV.ok]) (an (by decide) (SV.bk _) (hok K)) (by simp) ?_
  dsimp only [slices_ContainsFunc_Lapi_Dot_api_Dot.s,Co.M,Co.G,Co.J,Co.H,Co.N,Co.F,Co.C,Co.Z,Co.B,Co.b8,Co.ax,Co.bC,Co.i6,Co.z8,Co.bF];have hidx:∃ z:Int,xe (dM (fun K e=>(Gi h st o K e,AG h st o e)) K ds).1= .d (.int .i64 z)∧decide (z≥0)=(dM (fun K e=>(Gi h st o K e,AG h st o e)) K ds).1.isSome:=by
   cases (dM (fun K e=>(Gi h st o K e,AG h st o e)) K ds).1 with
   | none=>exact ⟨-1,rfl,rfl⟩
   | some i=>exact ⟨(i:Int),rfl,by simp⟩
  obtain ⟨z,hz,hz2⟩:=hidx;rw [hz] at cI;rw [← hz2];refine SW.seq ?_;refine SW.g0 [0,1,4] mixed af ?_;refine SW.seq ?_;simp only [Nat.mul_zero] at cI
  (refine SW.bM [0,1,4] mixed ?_;(repeat (first | refine RW.ro af (h:= ?_) | refine RW.skip (h:= ?_) | refine RW.op af (h:= ?_) | refine RW.di af (h:= ?_) | refine RW.aU (h:= ?_) | (refine RW.aM (h:= ?_);(first | refine ai.mk af (hs:=(fun _ _ h=>h)) (hc:=cI) (h:= ?_)))));refine RW.nil ⟨fc (by kernel_rfl),aq.mk (h:= ?_)⟩)
  refine SW.ret ?_;exact End.mk ((14,nU ds 14)::iG S h.X st K2 o) (h4:=⟨rfl,rfl⟩) (h6:=an (by decide) (SV.bk _) (hok K2))
 have hq:∀ K',Hp.ok (fun m=>(lk ((14,nU ds 14)::iG S h.X st K o) m).isSome) ((14,nU ds 14)::iG S h.X st K' o)=true:=fun K'=>an rfl (SV.bk _) (AH S h.X st K' o _ rfl rfl rfl (AI S h.X st K' _ fun n hn=>by
  match n,hn with
  | 0,_ | 1,_ | 2,_ | 3,_ | 4,_ | 5,_ | 6,_ | 7,_ | 8,_ | 9,_ | 10,_ | 11,_ | 12,_=>rfl))
 unfold aG;refine hsb.here (fun m=>(lk ((14,nU ds 14)::iG S h.X st K o) m).isSome) (fun m hm e=>by rw [e] at hm;cases hm) (by simp [SV.ay,SV.ok,aa]) (hq K) ?_
 rintro r F ⟨rfl,rfl⟩ _ _;refine ⟨rfl,Hp.ej (fun m hm=> ?_) (hq K2)⟩
 rw [Bool.or_eq_true];exact .inl hm
noncomputable def Gk (h:bP l S)(st:aB)(ds:List Dt)(K:KM)(d:Dt):KM:=if nL h st d then CT h st (S.op d) (vo h st K d) ds else vo h st K d
noncomputable def Gl (h:bP l S)(st:aB)(ds:List Dt)(d:Dt):Bool:=nL h st d && !ds.any (AG h st (S.op d))
omit hl hs in
theorem II (ds:List Dt)(K:KM)(d:Dt)(hK:K.ok (nL h st)):(Gk h st ds K d).ok (nL h st):=by
 have h1:=(pL (qu:=iI st) h.lvl h.oL 10 K d (h.oL d) hK).1;unfold Gk
 split
 ·exact zp (inv:=fun K=>K.ok (nL h st)) (fun K e hK=>Gj h st _ K e hK) ds _ h1
 ·exact h1
abbrev mH (S:Sh)(X:Ix)(st:aB)(K:KM)(ds:List Dt):Hp:=(15,.box 31 [.gs 14 ds.length])::(14,nU ds 14)::(13,.box 131 [.ptr 0 0])::fH S X st K
theorem Jy (S:Sh)(X:Ix)(st:aB)(K:KM)(ds:List Dt){k:Nat}(hk:16≤k):(mH S X st K ds).ok (fun n=>decide (n<k))=true:=
 an (by simp;omega) (by simp [Ob.ok,SV.ay,SV.ok];omega) (an (by simp;omega) (SV.bk _) (an (by simp;omega) (by simp [Ob.ok,SV.ay,SV.ok];omega) (sQ S X st K (by omega))))
theorem MK (S:Sh)(X:Ix)(st:aB)(K:KM)(ds:List Dt):∀ i,i<16→lk (mH S X st K ds) i≠none:=fun i hi=>by
 have:i=0∨i=1∨i=2∨i=3∨i=4∨i=5∨i=6∨i=7∨i=8∨i=9∨i=10∨i=11∨i=12∨i=13∨i=14∨i=15:=by omega
 rcases this with rfl | rfl | rfl | rfl | rfl | rfl | rfl | rfl | rfl | rfl | rfl | rfl | rfl | rfl | rfl | rfl <;> simp [aa]
include hl hs in
set_option maxHeartbeats 16000000 in
theorem IJ (ds:List Dt)(hds:ds.length≤80)(K:KM)(hK:K.ok (nL h st))(d:Dt):
  SB Tryz.prog final_Outcomes_1.f [.agg d.cells,.ptr 13 0,.ptr 15 0] (mH S h.X st K ds) 16 0 fun r F=>r=bl (Gl h st ds d)∧F=mH S h.X st (Gk h st ds K d) ds:=by
 refine final_Outcomes_1.enter (by simp [SV.ay,SV.ok,Dt.aj]) (Jy S _ st K ds (Nat.le_refl 16)) (by simp) ?_
 dsimp only [final_Outcomes_1.s,Co.M,Co.G,Co.J,Co.H,Co.N,Co.F,Co.C,Co.Z,Co.B,Co.b8,Co.ax,Co.bC,Co.i6,Co.z8,Co.bF];have a0:=FY st 6 2 1;have al:(0+1≤(sP st 6 2 1).length)=True:=eq_true (by rw [zi];decide)
 have cO:=MI h hs d;have cF:=uT (uU S h.X (h.small hl) st h.X.uR h.lvl 10 h.oL (h.BE hl) 10 d K (h.oL d) hK);have hK1:(vo h st K d).ok (nL h st):=(pL h.lvl h.oL 10 K d (h.oL d) hK).1;have cC:=zq h hl hs st (S.op d) (vo h st K d) hK1 ds hds;have hP:Gl h st ds d=(nL h st d && !ds.any (AG h st (S.op d))):=rfl;have hO:Gk h st ds K d=if nL h st d then CT h st (S.op d) (vo h st K d) ds else vo h st K d:=rfl
 rw [hP,hO];clear hP hO;generalize CT h st (S.op d) (vo h st K d) ds=K2 at cC ⊢;generalize ds.any (AG h st (S.op d))=ba at cC ⊢;change ∀ k,aG Tryz.prog final_asker_final.f [.ptr 0 0,.agg d.cells] (fH S h.X st K) k 0 (bl (nL h st d)) (fH S h.X st (vo h st K d)) at cF;generalize vo h st K d=K1 at cF cC ⊢;generalize nL h st d=bf at cF ⊢;generalize MM.has S.ops d=bh at cO;generalize S.op d=o at cO cC;have hokM:∀ K',(mH S h.X st K' ds).ok (fun n=>decide (n<16+0))=true:=fun K'=>Jy S _ st K' ds (Nat.le_refl 16)
 dsimp only [mH,fH,fT];refine SW.seq ?_;refine SW.g0 [0,1,2,3,4,5] mixed af ?_;refine SW.seq ?_;refine SW.g1 [0,1,2,3,4,5] mixed (And.intro (a0) (al)) cO ?_;refine SW.seq ?_;cases bf with
 | false=>
  refine SW.g1 [0,1,2,3,4,5] mixed af cF ?_;refine SW.ret ?_;exact End.mk (mH S h.X st K1 ds) (h4:=⟨rfl,rfl⟩) (h6:=hokM K1)
 | true=>
  refine SW.g2 [0,1,2,3,4,5] mixed af cF cC ?_;refine SW.ret ?_;exact End.mk (mH S h.X st K2 ds) (h4:=⟨by cases ba <;> rfl,rfl⟩) (h6:=hokM K2)
end
end
section
attribute [local irreducible] SW RW aG SC ai aq jQ zc
noncomputable def uX (l:List ag)(d e:Dt):Bool:=decide ((j0 l e).aI=(j0 l d).aI) && (dx l e && decide (yw (j0 l e) (j0 l d)<0))
noncomputable def AJ (l:List ag)(st:aB)(d:Dt):Bool:=n_ l st d && !(iR l).any fun e=>uX l d e && !n_ l st e
theorem IK {l:List ag}{S:Sh}(h:bP l S)(st:aB):Gl h st (iR l)=AJ l st:=by
 funext d
 have e:nL h st=n_ l st:=by unfold nL n_;rw [h.tA]
 have e2:AG h st (S.op d)=fun e=>uX l d e && !n_ l st e:=by
  funext x
  unfold AG oM uX;rw [e,h.Bz,h.base.op,h.base.op]
 unfold Gl AJ;rw [e,e2]
abbrev oH (S:Sh)(X:Ix)(st:aB)(K:KM)(ds:List Dt):Hp:=(22,.box 31 [.gs 21 ds.length])::(21,nU ds 21)::(19,.box 131 [.ptr 18 0])::zl S X st K
theorem AK (S:Sh)(X:Ix)(st:aB)(K:KM)(ds:List Dt)(q:Nat→Bool)(h:∀ n,n∈22::21::19::Lq→q n=true):(oH S X st K ds).ok q=true:=
 an (h 22 (by decide)) (by simp [Ob.ok,SV.ay,SV.ok,h 21]) (an (h 21 (by decide)) (SV.bk _) (an (h 19 (by decide)) (by simp [Ob.ok,SV.ay,SV.ok,h 18]) (tw S X st K q fun n hn=>h n (List.mem_cons_of_mem _ (List.mem_cons_of_mem _ (List.mem_cons_of_mem _ hn))))))
theorem NO (S:Sh)(X:Ix)(st:aB)(K K':KM)(ds:List Dt)(q:Nat→Bool)(h:(oH S X st K ds).ok q=true):(oH S X st K' ds).ok q=true:=by
 simp only [Hp.ok,List.all_cons,Ob.ok,nJ] at h ⊢;exact h
theorem ON {l:List ag}{S:Sh}(h:bP l S)(hl:l.length≤80)(hs:ji S)(st:aB)(ds:List Dt)(hds:ds.length≤80):IA Tryz.prog final_Outcomes_1.f [] [.ptr 19 0,.ptr 22 0] (fun K=>oH S h.X st K ds) (Gk h st ds) (Gl h st ds) 0 (KM.ok (nL h st)) where
 nd K:=by simp
 nm K K':=rfl
 step K d hK:=II h st ds K d hK
 ok K d q hq:=NO S _ st K _ ds q hq
 call K d k hK _:=by
  have:=SB.o8 (Lq++[19,21,22]) (IJ h hl hs st ds hds K hK d) (by decide) (fun i hi=>MK S h.X st K ds i (by simpa using hi)) k
  have e:∀ K,(mH S h.X st K ds).aC (fq (Lq++[19,21,22]) k)=oH S h.X st K ds:=fun K=>by
   simp [Hp.aC,Ob.aC,SV.aT,SV.aC,fq,lF,jP,bH,eG,cg,dV,dB,SV.gz]
  rw [e,e] at this
  simpa [SV.aT,SV.aC,fq,Dt.av] using this
 a1 K q hq:=by
  simp only [Hp.ok,List.all_cons,Bool.and_eq_true] at hq;exact ⟨rfl,by simp [SV.ay,SV.ok,hq.1.1,hq.2.2.1.1]⟩
 cl K:=AK S _ st K ds _ fun n hn=>by
  simp only [List.mem_cons,List.not_mem_nil,or_false] at hn;rcases hn with rfl | rfl | rfl | rfl | rfl | rfl | rfl | rfl | rfl | rfl | rfl | rfl | rfl | rfl | rfl | rfl <;> rfl
theorem Gm (S:Sh)(X:Ix)(st:aB)(K:KM)(ds:List Dt):HSub (BF S) (oH S X st K ds):=by
 refine HSub.cons ?_ (HSub.cons ?_ (HSub.cons ?_ (HSub.cons ?_ (HSub.cons ?_ (HSub.cons ?_ (HSub.cons ?_ (HSub.nil _))))))) <;> rfl
theorem IL (S:Sh)(X:Ix)(st:aB)(K:KM)(ds:List Dt)(o:Ob):bQ false (oH S X st K ds) (BF S) ((25,o)::BF S)=(25,o)::oH S X st K ds:=by
 simp only [bQ,bV,bW,fE,fD,cZ,lk,List.lookup,Nat.reduceBEq,BEq.rfl,beq_self_eq_true,if_true,if_false,reduceIte,Nat.reduceEqDiff,Bool.false_eq_true,Option.isSome_some,Option.isSome_none]
theorem IN {l:List ag}{S:Sh}(h:bP l S)(hl:l.length≤80)(st:aB)(K:KM)(ds:List Dt):aG Tryz.prog shape_Shape_Dots.f [.ptr 12 0] (oH S h.X st K ds) 24 2 (.gs 25 (iR l).length) ((25,nU (iR l) 25)::oH S h.X st K ds):=by
 have h1:=SB.o8 [12,9,10,11,4,2,3] (wF S h.base.ops.wf (by have:=h.iU;omega)) (by decide) (fun i hi=>S.Bi i hi) 24
 rw [h.xE] at h1;show aG _ _ _ _ _ _ (.gs 25 (Dt.set (l.map (·.dot))).length) ((25,nU (Dt.set (l.map (·.dot))) 25)::_)
 generalize Dt.set (l.map (·.dot))=D at h1 ⊢
 have e1:S.h0.aC (fq [12,9,10,11,4,2,3] 24)=BF S:=by simp [Hp.aC,Ob.aC,SV.aT,SV.aC,fq,bH,cg,dV,dB]
 have e2:Hp.aC (fq [12,9,10,11,4,2,3] 24) ((8,nU D 8)::S.h0)=(25,nU D 25)::BF S:=by
  rw [← e1];simp [Hp.aC,Ob.aC,fq,SV.gz]
 rw [e1,e2] at h1;have h2:aG Tryz.prog shape_Shape_Dots.f [.ptr 12 0] (BF S) 24 2 (.gs 25 D.length) ((25,nU D 25)::BF S):=h1;unfold aG at h2 ⊢;have h3:=SC.frame h2 (Gm S h.X st K ds);refine SC.mono h3 fun r F hh=> ?_
 obtain ⟨F1,⟨h4,h5⟩,h6⟩:=hh;rw [h5,IL] at h6;exact ⟨h4,h6⟩
theorem Gn {l:List ag}{S:Sh}(h:bP l S)(hl:l.length≤80)(hs:ji S)(st:aB):SC Tryz.prog final_asker_some.f [.ptr 18 0,.fn (.func final_Outcomes_1.f) [] [.ptr 19 0,.ptr 22 0]] (oH S h.X st ⟨[],0⟩ (iR l)) 23 (3+((iR l).length*(1+0)+(iR l).length*(1+0+1))) fun r F=>∃ K',r= .gs 25 ((iR l).filter (AJ l st)).length∧F=(25,nU ((iR l).filter (AJ l st)) 25)::oH S h.X st K' (iR l):=by
 have hds:(iR l).length≤80:=h.jk hl;have hO:=ON h hl hs st (iR l) hds;have lg:=hO.cl ⟨[],0⟩;have:=(BB hO ⟨[],0⟩ (KM.zG _) 18 12 16 17 st (iR l) (by omega) 23 (AK S _ st _ _ _ (by decide)) rfl (IN h hl st _ _) (fun K n hn=>fW (by simp;omega))).here (fun n=>(lk (oH S h.X st ⟨[],0⟩ (iR l)) n).isSome) (fun n hn e=>by rw [e] at hn;cases hn) (by simp [SV.ay,SV.ok,aa]) lg (by
  rintro r F ⟨K',_,rfl,rfl⟩ _ _;refine ⟨by simp [SV.ok];right;omega,an (by simp;right;omega) (SV.bk _) (AK S _ st _ _ _ fun n hn=> ?_)⟩
  rw [Bool.or_eq_true];left;simp only [List.mem_cons,List.not_mem_nil,or_false] at hn;rcases hn with rfl | rfl | rfl | rfl | rfl | rfl | rfl | rfl | rfl | rfl | rfl | rfl | rfl | rfl | rfl | rfl <;> rfl)
 refine SC.mono this ?_;rintro r F ⟨K',_,rfl,rfl⟩;rw [IK];exact ⟨K',rfl,rfl⟩
end
end Go.Proofs.YtaelhkkjgfobhaaGreat
