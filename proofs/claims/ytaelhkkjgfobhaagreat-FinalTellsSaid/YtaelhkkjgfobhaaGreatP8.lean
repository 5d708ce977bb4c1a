/-
 Final: whose outcomes are final: the question.
-/
import Derived.Test.YtaelhkkjgfobhaaGreatP6
import Derived.Test.YtaelhkkjgfobhaaGreatP7
set_option linter.unusedSectionVars false
set_option linter.unusedVariables false
set_option linter.unusedSimpArgs false
namespace Go.Proofs.YtaelhkkjgfobhaaGreat
open Go.Sl Go.Proofs
section
attribute [local irreducible] SW RW aF SC ai aq j6 Ac
theorem zP {σ:Type}(f:σ→Dt→σ)(p:Dt→Bool):∀ (l:List Dt) (s:σ),(dQ (fun s x=>(f s x,p x)) s l).1.isSome=l.any p
 | [],s=>rfl
 | x ::l,s=>by
  simp only [dQ,List.any_cons];cases hp:p x with
  | true=>rfl
  | false=>
   simp only [Bool.false_or,Bool.false_eq_true,if_false];rw [← zP f p l (f s x)];cases (dQ (fun s x=>(f s x,p x)) (f s x) l).1 <;> rfl
theorem zQ {σ:Type}{f:σ→Dt→σ}{p:Dt→Bool}{inv:σ→Prop}(h:∀ s x,inv s→inv (f s x)):∀ (l:List Dt) (s:σ),inv s→inv (dQ (fun s x=>(f s x,p x)) s l).2
 | [],s,hs=>hs
 | x::l,s,hs=>by
  simp only [dQ]
  split
  ·exact h s x hs
  ·exact zQ h l _ (h s x hs)
noncomputable abbrev nT {l:List ag}{S:Sh}(h:bR l S)(st:aB):Dt→Bool:=eF (iQ st) h.X.bY 10
noncomputable abbrev vM {l:List ag}{S:Sh}(h:bR l S)(st:aB):KM→Dt→KM:=og (iQ st) h.X.bY 10
noncomputable def GK {l:List ag}{S:Sh}(h:bR l S)(st:aB)(o:ag)(K:KM)(e:Dt):KM:=if oR S o e then vM h st K e else K
noncomputable def A6 {l:List ag}{S:Sh}(h:bR l S)(st:aB)(o:ag)(e:Dt):Bool:=oR S o e && !nT h st e
noncomputable def Dm {l:List ag}{S:Sh}(h:bR l S)(st:aB)(o:ag)(K:KM)(ds:List Dt):KM:=(dQ (fun K e=>(GK h st o K e,A6 h st o e)) K ds).2
section
variable {l:List ag} {S:Sh} (h:bR l S) (hl:l.length≤80) (hs:jv S) (st:aB)
theorem GL (o:ag)(K:KM)(e:Dt)(hK:K.ok (nT h st)):(GK h st o K e).ok (nT h st):=by
 unfold GK
 split
 ·exact (pR h.lvl h.oP 10 K e (h.oP e) hK).1
 ·exact hK
abbrev iG (S:Sh)(X:Ix)(st:aB)(K:KM)(o:ag):Hp:=(17,.box 43 o.cells)::(13,.box 131 [.ptr 0 0])::fH S X st K
theorem A7 (S:Sh)(X:Ix)(st:aB)(K:KM)(o:ag)(q:Nat→Bool)(Pj:q 17=true)(NA:q 13=true)(h0:q 0=true)(h:(fH S X st K).ok q=true):(iG S X st K o).ok q=true:=an Pj (by simp [Ob.ok,ag.ak]) (an NA (by simp [Ob.ok,SV.ax,SV.ok,h0]) h)
theorem A8 (S:Sh)(X:Ix)(st:aB)(K:KM)(q:Nat→Bool)(h:∀ n,n<13→q n=true):(fH S X st K).ok q=true:=by
 refine an (h 0 (by decide)) (ye _ _ _ _ _ ⟨h 6 (by decide),h 2 (by decide),h 1 (by decide)⟩) (an (h 1 (by decide)) (nS _ _) (an (h 2 (by decide)) (by simp [Ob.ok,SV.ax,SV.ok,h 3,h 4,h 5]) (an (h 3 (by decide)) (bq _ _) (an (h 4 (by decide)) (eB _ _) (an (h 5 (by decide)) (eB _ _) ?_)))));refine an (h 6 (by decide)) (by simp [Ob.ok,SV.ax,SV.ok,h 7,h 8,h 9,h 10]) (an (h 7 (by decide)) (bq _ _) (an (h 8 (by decide)) (bJ _ _) (an (h 9 (by decide)) (jf _ _) (an (h 10 (by decide)) (by simp [Ob.ok,SV.ax,SV.ok,h 11,h 12]) (an (h 11 (by decide)) (gT _ _) (an (h 12 (by decide)) (bq _ _) rfl))))))
theorem Om (S:Sh)(X:Ix)(st:aB)(K K':KM)(o:ag)(q:Nat→Bool)(h:(iG S X st K o).ok q=true):(iG S X st K' o).ok q=true:=by
 simp only [Hp.ok,List.all_cons,Ob.ok,nS] at h ⊢;exact h
theorem Nh (S:Sh)(X:Ix)(st:aB)(K:KM)(o:ag):(iG S X st K o).ok (fun m=>(lk (iG S X st K o) m).isSome)=true:=
 A7 S X st K o _ rfl rfl rfl (A8 S X st K _ fun n hn=>by
  match n,hn with
  | 0,_ | 1,_ | 2,_ | 3,_ | 4,_ | 5,_ | 6,_ | 7,_ | 8,_ | 9,_ | 10,_ | 11,_ | 12,_=>rfl)
include hl hs in
theorem Dn (o:ag):sO Tryz.prog final_Outcomes_1_1.f [] [.ptr 13 0,.ptr 17 0] (fun K=>iG S h.X st K o) (fun K e=>(GK h st o K e,A6 h st o e)) 0 (fun _ K=>K.ok (nT h st)) (fun _=>True) 1000000000 where
 nd K:=by simp
 nm K e:=rfl
 nx _ K e hK _ _:=GL h st o K e hK
 ok K e q hq:=Om S _ st K _ o q hq
 call i K e k hK _ _ _:=by
  have:=SB.pz [0,1,2,3,4,5,6,7,8,9,10,11,12,13,17] (GJ h hl hs st K hK o e) (by decide) (fun i hi=>Nf S h.X st K o i (by simpa using hi)) k;have e1:∀ K,(iH S h.X st K o).aC (fF [0,1,2,3,4,5,6,7,8,9,10,11,12,13,17] k)=iG S h.X st K o:=fun K=>by
   simp [Hp.aC,Ob.aC,SV.aT,SV.aC,fF,lS,jX,bK,eN,cH,dZ,dG,ag.ay]
  rw [e1,e1] at this;rw [show bl (A6 h st o e)=bl (oR S o e && !eF (iQ st) h.X.bY 10 e) from rfl,show GK h st o K e=if oR S o e then og (iQ st) h.X.bY 10 K e else K from rfl]
  simpa [SV.aT,SV.aC,fF,Dt.ay] using this
 a1 K q hq:=by
  simp only [Hp.ok,List.all_cons,Bool.and_eq_true] at hq;exact ⟨rfl,by simp [SV.ax,SV.ok,hq.1.1,hq.2.1.1]⟩
include hl hs in
set_option maxHeartbeats 8000000 in
theorem zR (o:ag)(K:KM)(hK:K.ok (nT h st))(ds:List Dt)(hds:ds.length≤80):aF Tryz.prog slices_ContainsFunc_Lapi_Dot_api_Dot.f [.gs 14 ds.length,.fn (.func final_Outcomes_1_1.f) [] [.ptr 13 0,.ptr 17 0]] ((14,kE ds 14)::iG S h.X st K o) 18 0 (bl (ds.any (A6 h st o))) ((14,kE ds 14)::iG S h.X st (Dm h st o K ds) o):=by
 have hd:=Dn h hl hs st o;have lJ:=Nh S h.X st K o;have hok:∀ K,(iG S h.X st K o).ok (fun n=>decide (n<18))=true:=fun K=>A7 S _ st K o _ rfl rfl rfl (A8 S _ st K _ fun n hn=>by simp;omega)
 have cI:=wX hd ds K (by omega) (by omega) (fun _ _=>trivial) hK 14 18 (by decide) ⟨rfl,hok K,rfl⟩ lJ;have hany:=zP (GK h st o) (A6 h st o) ds K;rw [← hany];have hKs:(dQ (fun K e=>(GK h st o K e,A6 h st o e)) K ds).2=Dm h st o K ds:=rfl;rw [hKs] at cI;generalize Dm h st o K ds=K2 at cI ⊢;have hsb:SB Tryz.prog slices_ContainsFunc_Lapi_Dot_api_Dot.f [.gs 14 ds.length,.fn (.func final_Outcomes_1_1.f) [] [.ptr 13 0,.ptr 17 0]] ((14,kE ds 14)::iG S h.X st K o) 18 0 fun r F=>r=bl (dQ (fun K e=>(GK h st o K e,A6 h st o e)) K ds).1.isSome∧F=(14,kE ds 14)::iG S h.X st K2 o:=by
  refine slices_ContainsFunc_Lapi_Dot_api_Dot.enter (by simp [SV.ax,SV.ok]) (an (by decide) (SV.br _) (hok K)) (by simp) ?_;dsimp only [slices_ContainsFunc_Lapi_Dot_api_Dot.s,Co.M,Co.J,Co.F,Co.B,Co.Q,Co.Y,Co.S];have hidx:∃ z:Int,xG (dQ (fun K e=>(GK h st o K e,A6 h st o e)) K ds).1= .d (.int .i64 z)∧decide (z≥0)=(dQ (fun K e=>(GK h st o K e,A6 h st o e)) K ds).1.isSome:=by
   cases (dQ (fun K e=>(GK h st o K e,A6 h st o e)) K ds).1 with
   | none=>exact ⟨-1,rfl,rfl⟩
   | some i=>exact ⟨(i:Int),rfl,by simp⟩
  obtain ⟨z,hz,hz2⟩:=hidx;rw [hz] at cI;rw [← hz2];refine SW.seq ?_;refine SW.g0 [0,1,4] mixed af ?_;refine SW.seq ?_;simp only [Nat.mul_zero] at cI
  (refine SW.bT [0,1,4] mixed ?_;(repeat (first | refine RW.ro af (h:= ?_) | refine RW.skip (h:= ?_) | refine RW.op af (h:= ?_) | refine RW.dD af (h:= ?_) | refine RW.aY (h:= ?_) | (refine RW.aM (h:= ?_);(first | refine ai.mk af (hs:=(fun _ _ h=>h)) (hc:=cI) (h:= ?_)))));refine RW.nil ⟨gU (by kernel_rfl),aq.mk (h:= ?_)⟩)
  refine SW.ret ?_;exact End.mk ((14,kE ds 14)::iG S h.X st K2 o) (h4:=⟨rfl,rfl⟩) (h6:=an (by decide) (SV.br _) (hok K2))
 have hq:∀ K',Hp.ok (fun m=>(lk ((14,kE ds 14)::iG S h.X st K o) m).isSome) ((14,kE ds 14)::iG S h.X st K' o)=true:=fun K'=>an rfl (SV.br _) (A7 S h.X st K' o _ rfl rfl rfl (A8 S h.X st K' _ fun n hn=>by
  match n,hn with
  | 0,_ | 1,_ | 2,_ | 3,_ | 4,_ | 5,_ | 6,_ | 7,_ | 8,_ | 9,_ | 10,_ | 11,_ | 12,_=>rfl))
 unfold aF;refine hsb.here (fun m=>(lk ((14,kE ds 14)::iG S h.X st K o) m).isSome) (fun m hm e=>by rw [e] at hm;cases hm) (by simp [SV.ax,SV.ok,aa]) (hq K) ?_;rintro r F ⟨rfl,rfl⟩ _ _;refine ⟨rfl,Hp.ez (fun m hm=> ?_) (hq K2)⟩;rw [Bool.or_eq_true];exact .inl hm
noncomputable def GM (h:bR l S)(st:aB)(ds:List Dt)(K:KM)(d:Dt):KM:=if nT h st d then Dm h st (S.op d) (vM h st K d) ds else vM h st K d
noncomputable def GN (h:bR l S)(st:aB)(ds:List Dt)(d:Dt):Bool:=nT h st d && !ds.any (A6 h st (S.op d))
omit hl hs in
theorem Jg (ds:List Dt)(K:KM)(d:Dt)(hK:K.ok (nT h st)):(GM h st ds K d).ok (nT h st):=by
 have h1:=(pR (qD:=iQ st) h.lvl h.oP 10 K d (h.oP d) hK).1;unfold GM
 split
 ·exact zQ (inv:=fun K=>K.ok (nT h st)) (fun K e hK=>GL h st _ K e hK) ds _ h1
 ·exact h1
abbrev mH (S:Sh)(X:Ix)(st:aB)(K:KM)(ds:List Dt):Hp:=(15,.box 31 [.gs 14 ds.length])::(14,kE ds 14)::(13,.box 131 [.ptr 0 0])::fH S X st K
theorem J4 (S:Sh)(X:Ix)(st:aB)(K:KM)(ds:List Dt){k:Nat}(hk:16≤k):(mH S X st K ds).ok (fun n=>decide (n<k))=true:=
 an (by simp;omega) (by simp [Ob.ok,SV.ax,SV.ok];omega) (an (by simp;omega) (SV.br _) (an (by simp;omega) (by simp [Ob.ok,SV.ax,SV.ok];omega) (s8 S X st K (by omega))))
theorem Ni (S:Sh)(X:Ix)(st:aB)(K:KM)(ds:List Dt):∀ i,i<16→lk (mH S X st K ds) i≠none:=fun i hi=>by
 have:i=0∨i=1∨i=2∨i=3∨i=4∨i=5∨i=6∨i=7∨i=8∨i=9∨i=10∨i=11∨i=12∨i=13∨i=14∨i=15:=by omega
 rcases this with rfl | rfl | rfl | rfl | rfl | rfl | rfl | rfl | rfl | rfl | rfl | rfl | rfl | rfl | rfl | rfl <;> simp [aa]
include hl hs in
set_option maxHeartbeats 16000000 in
theorem Jh (ds:List Dt)(hds:ds.length≤80)(K:KM)(hK:K.ok (nT h st))(d:Dt):
  SB Tryz.prog final_Outcomes_1.f [.agg d.cells,.ptr 13 0,.ptr 15 0] (mH S h.X st K ds) 16 0 fun r F=>r=bl (GN h st ds d)∧F=mH S h.X st (GM h st ds K d) ds:=by
 refine final_Outcomes_1.enter (by simp [SV.ax,SV.ok,Dt.ak]) (J4 S _ st K ds (Nat.le_refl 16)) (by simp) ?_;dsimp only [final_Outcomes_1.s,Co.M,Co.J,Co.H,Co.F,Co.C,Co.B,Co.bF,Co.T,Co.K,Co.E,Co.Q,Co.x,Co.W,Co.U,Co.D,Co.A,Co.S];have a0:=Gr st 6 2 1;have al:(0+1≤(s7 st 6 2 1).length)=True:=eq_true (by rw [zI];decide);have cO:=Ng h hs d;have cF:=vc (ve S h.X (h.small hl) st h.X.va h.lvl 10 h.oP (h.B5 hl) 10 d K (h.oP d) hK);have hK1:(vM h st K d).ok (nT h st):=(pR h.lvl h.oP 10 K d (h.oP d) hK).1;have cC:=zR h hl hs st (S.op d) (vM h st K d) hK1 ds hds;have hP:GN h st ds d=(nT h st d && !ds.any (A6 h st (S.op d))):=rfl;have hO:GM h st ds K d=if nT h st d then Dm h st (S.op d) (vM h st K d) ds else vM h st K d:=rfl
 rw [hP,hO];clear hP hO;generalize Dm h st (S.op d) (vM h st K d) ds=K2 at cC ⊢;generalize ds.any (A6 h st (S.op d))=ba at cC ⊢;change ∀ k,aF Tryz.prog final_asker_final.f [.ptr 0 0,.agg d.cells] (fH S h.X st K) k 0 (bl (nT h st d)) (fH S h.X st (vM h st K d)) at cF;generalize vM h st K d=K1 at cF cC ⊢;generalize nT h st d=bf at cF ⊢;generalize MM.has S.ops d=bh at cO;generalize S.op d=o at cO cC;have hokM:∀ K',(mH S h.X st K' ds).ok (fun n=>decide (n<16+0))=true:=fun K'=>J4 S _ st K' ds (Nat.le_refl 16)
 dsimp only [mH,fH,fT];refine SW.seq ?_;refine SW.g0 [0,1,2,3,4,5] mixed af ?_;refine SW.seq ?_;refine SW.g1 [0,1,2,3,4,5] mixed (And.intro (a0) (al)) cO ?_;refine SW.seq ?_;cases bf with
 | false=>
  refine SW.g1 [0,1,2,3,4,5] mixed af cF ?_;refine SW.ret ?_;exact End.mk (mH S h.X st K1 ds) (h4:=⟨rfl,rfl⟩) (h6:=hokM K1)
 | true=>
  refine SW.g2 [0,1,2,3,4,5] mixed af cF cC ?_;refine SW.ret ?_;exact End.mk (mH S h.X st K2 ds) (h4:=⟨by cases ba <;> rfl,rfl⟩) (h6:=hokM K2)
end
end
section
attribute [local irreducible] SW RW aF SC ai aq j6 Ac
noncomputable def qA (l:List ag)(d e:Dt):Bool:=decide ((i_ l e).aH=(i_ l d).aH) && (di l e && decide (n_ (i_ l e) (i_ l d)<0))
noncomputable def A9 (l:List ag)(st:aB)(d:Dt):Bool:=oh l st d && !(fA l).any fun e=>qA l d e && !oh l st e
theorem Ji {l:List ag}{S:Sh}(h:bR l S)(st:aB):GN h st (fA l)=A9 l st:=by
 funext d
 have e:nT h st=oh l st:=by unfold nT oh;rw [h.tP]
 have e2:A6 h st (S.op d)=fun e=>qA l d e && !oh l st e:=by
  funext x
  unfold A6 oR qA;rw [e,h.B0,h.base.op,h.base.op]
 unfold GN A9;rw [e,e2]
abbrev oH (S:Sh)(X:Ix)(st:aB)(K:KM)(ds:List Dt):Hp:=(22,.box 31 [.gs 21 ds.length])::(21,kE ds 21)::(19,.box 131 [.ptr 18 0])::zL S X st K
theorem A_ (S:Sh)(X:Ix)(st:aB)(K:KM)(ds:List Dt)(q:Nat→Bool)(h:∀ n,n∈22::21::19::LW→q n=true):(oH S X st K ds).ok q=true:=
 an (h 22 (by decide)) (by simp [Ob.ok,SV.ax,SV.ok,h 21]) (an (h 21 (by decide)) (SV.br _) (an (h 19 (by decide)) (by simp [Ob.ok,SV.ax,SV.ok,h 18]) (tO S X st K q fun n hn=>h n (List.mem_cons_of_mem _ (List.mem_cons_of_mem _ (List.mem_cons_of_mem _ hn))))))
theorem Oo (S:Sh)(X:Ix)(st:aB)(K K':KM)(ds:List Dt)(q:Nat→Bool)(h:(oH S X st K ds).ok q=true):(oH S X st K' ds).ok q=true:=by
 simp only [Hp.ok,List.all_cons,Ob.ok,nS] at h ⊢;exact h
theorem Pk {l:List ag}{S:Sh}(h:bR l S)(hl:l.length≤80)(hs:jv S)(st:aB)(ds:List Dt)(hds:ds.length≤80):I_ Tryz.prog final_Outcomes_1.f [] [.ptr 19 0,.ptr 22 0] (fun K=>oH S h.X st K ds) (GM h st ds) (GN h st ds) 0 (KM.ok (nT h st)) where
 nd K:=by simp
 nm K K':=rfl
 step K d hK:=Jg h st ds K d hK
 ok K d q hq:=Oo S _ st K _ ds q hq
 call K d k hK _:=by
  have:=SB.pz (LW++[19,21,22]) (Jh h hl hs st ds hds K hK d) (by decide) (fun i hi=>Ni S h.X st K ds i (by simpa using hi)) k;have e:∀ K,(mH S h.X st K ds).aC (fF (LW++[19,21,22]) k)=oH S h.X st K ds:=fun K=>by
   simp [Hp.aC,Ob.aC,SV.aT,SV.aC,fF,lS,jX,bK,eN,cH,dZ,dG,SV.gD]
  rw [e,e] at this
  simpa [SV.aT,SV.aC,fF,Dt.ay] using this
 a1 K q hq:=by
  simp only [Hp.ok,List.all_cons,Bool.and_eq_true] at hq;exact ⟨rfl,by simp [SV.ax,SV.ok,hq.1.1,hq.2.2.1.1]⟩
 cl K:=A_ S _ st K ds _ fun n hn=>by
  simp only [List.mem_cons,List.not_mem_nil,or_false] at hn;rcases hn with rfl | rfl | rfl | rfl | rfl | rfl | rfl | rfl | rfl | rfl | rfl | rfl | rfl | rfl | rfl | rfl <;> rfl
theorem GO (S:Sh)(X:Ix)(st:aB)(K:KM)(ds:List Dt):HSub (B6 S) (oH S X st K ds):=by
 refine HSub.cons ?_ (HSub.cons ?_ (HSub.cons ?_ (HSub.cons ?_ (HSub.cons ?_ (HSub.cons ?_ (HSub.cons ?_ (HSub.nil _))))))) <;> rfl
theorem Jj (S:Sh)(X:Ix)(st:aB)(K:KM)(ds:List Dt)(o:Ob):bS false (oH S X st K ds) (B6 S) ((25,o)::B6 S)=(25,o)::oH S X st K ds:=by
 simp only [bS,bZ,b_,fC,fK,cM,lk,List.lookup,Nat.reduceBEq,BEq.rfl,beq_self_eq_true,if_true,if_false,reduceIte,Nat.reduceEqDiff,Bool.false_eq_true,Option.isSome_some,Option.isSome_none]
theorem Jk {l:List ag}{S:Sh}(h:bR l S)(hl:l.length≤80)(st:aB)(K:KM)(ds:List Dt):aF Tryz.prog shape_Shape_Dots.f [.ptr 12 0] (oH S h.X st K ds) 24 2 (.gs 25 (fA l).length) ((25,kE (fA l) 25)::oH S h.X st K ds):=by
 have h1:=SB.pz [12,9,10,11,4,2,3] (wY S h.base.ops.wf (by have:=h.jc;omega)) (by decide) (fun i hi=>S.BK i hi) 24;rw [h.xX] at h1;show aF _ _ _ _ _ _ (.gs 25 (Dt.set (l.map (·.dot))).length) ((25,kE (Dt.set (l.map (·.dot))) 25)::_);generalize Dt.set (l.map (·.dot))=D at h1 ⊢;have e1:S.h0.aC (fF [12,9,10,11,4,2,3] 24)=B6 S:=by simp [Hp.aC,Ob.aC,SV.aT,SV.aC,fF,bK,cH,dZ,dG]
 have e2:Hp.aC (fF [12,9,10,11,4,2,3] 24) ((8,kE D 8)::S.h0)=(25,kE D 25)::B6 S:=by
  rw [← e1];simp [Hp.aC,Ob.aC,fF,SV.gD]
 rw [e1,e2] at h1;have h2:aF Tryz.prog shape_Shape_Dots.f [.ptr 12 0] (B6 S) 24 2 (.gs 25 D.length) ((25,kE D 25)::B6 S):=h1;unfold aF at h2 ⊢;have h3:=SC.frame h2 (GO S h.X st K ds);refine SC.mono h3 fun r F hh=> ?_
 obtain ⟨F1,⟨h4,h5⟩,h6⟩:=hh;rw [h5,Jj] at h6;exact ⟨h4,h6⟩
theorem GP {l:List ag}{S:Sh}(h:bR l S)(hl:l.length≤80)(hs:jv S)(st:aB):SC Tryz.prog final_asker_some.f [.ptr 18 0,.fn (.func final_Outcomes_1.f) [] [.ptr 19 0,.ptr 22 0]] (oH S h.X st ⟨[],0⟩ (fA l)) 23 (3+((fA l).length*(1+0)+(fA l).length*(1+0+1))) fun r F=>∃ K',r= .gs 25 ((fA l).filter (A9 l st)).length∧F=(25,kE ((fA l).filter (A9 l st)) 25)::oH S h.X st K' (fA l):=by
 have hds:(fA l).length≤80:=h.jx hl;have hO:=Pk h hl hs st (fA l) hds;have lJ:=hO.cl ⟨[],0⟩;have:=(B2 hO ⟨[],0⟩ (KM.Ab _) 18 12 16 17 st (fA l) (by omega) 23 (A_ S _ st _ _ _ (by decide)) rfl (Jk h hl st _ _) (fun K n hn=>gf (by simp;omega))).here (fun n=>(lk (oH S h.X st ⟨[],0⟩ (fA l)) n).isSome) (fun n hn e=>by rw [e] at hn;cases hn) (by simp [SV.ax,SV.ok,aa]) lJ (by
  rintro r F ⟨K',_,rfl,rfl⟩ _ _;refine ⟨by simp [SV.ok];right;omega,an (by simp;right;omega) (SV.br _) (A_ S _ st _ _ _ fun n hn=> ?_)⟩;rw [Bool.or_eq_true];left;simp only [List.mem_cons,List.not_mem_nil,or_false] at hn;rcases hn with rfl | rfl | rfl | rfl | rfl | rfl | rfl | rfl | rfl | rfl | rfl | rfl | rfl | rfl | rfl | rfl <;> rfl)
 refine SC.mono this ?_;rintro r F ⟨K',_,rfl,rfl⟩;rw [Ji];exact ⟨K',rfl,rfl⟩
end
end Go.Proofs.YtaelhkkjgfobhaaGreat
