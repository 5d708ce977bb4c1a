/-
 Final: the head's row, what is said of it (plain).
-/
import Derived.Test.YtaelhkkjgfobhaaGreatU9
import Derived.Test.YtaelhkkjgfobhaaGreatUS
import Derived.Test.YtaelhkkjgfobhaaGreatU6
import Derived.Test.YtaelhkkjgfobhaaGreatUX
set_option linter.unusedSectionVars false
set_option linter.unusedVariables false
set_option linter.unusedSimpArgs false
namespace Go.Proofs.YtaelhkkjgfobhaaGreat
open Go.Sl Go.Proofs
section
def jd (a b:Nat):aB:=⟨a,b,0,0,0,0,0,0⟩
theorem Od:j0 bI ⟨0,1⟩=p1:=eF (by kernel_rfl)
theorem Oe:j0 bI ⟨0,2⟩=p2:=eF (by kernel_rfl)
theorem Of:j0 bI ⟨0,3⟩=p3:=eF (by kernel_rfl)
theorem Og:j0 bI ⟨0,4⟩=p4:=eF (by kernel_rfl)
theorem Oh:j0 bI ⟨1,1⟩=p5:=eF (by kernel_rfl)
theorem oO {l:List ag}{d:Dt}{o:ag}(h:aJ l d=some o)(hw:gE l o=0):dx l d=true:=by
 unfold dx;rw [h];simp [hw]
theorem Oi:dx bI ⟨0,1⟩=true:=oO (o:=p1) (by kernel_rfl) Mu
theorem Oj:dx bI ⟨0,2⟩=true:=oO (o:=p2) (by kernel_rfl) Mv
theorem Ol:dx bI ⟨0,3⟩=true:=oO (o:=p3) (by kernel_rfl) Mw
theorem Om:dx bI ⟨0,4⟩=true:=oO (o:=p4) (by kernel_rfl) Mx
theorem Oo:dx bI ⟨1,1⟩=true:=oO (o:=p5) (by kernel_rfl) My
theorem Gr:bD bI=[⟨0,1⟩,⟨0,2⟩,⟨0,3⟩,⟨0,4⟩,⟨1,1⟩]:=by
 have e:oJ bI=bI.map (·.dot):=by
  unfold oJ;rw [List.filter_eq_self.2];intro o ho;simp only [bI,List.mem_cons,List.not_mem_nil,or_false] at ho;rcases ho with rfl | rfl | rfl | rfl | rfl
  ·exact Oi
  ·exact Oj
  ·exact Ol
  ·exact Om
  ·exact Oo
 unfold bD;rw [e];exact Jo
theorem K_:gQ bI p1=[]:=by unfold gQ;rw [if_pos (by decide)]
theorem La:gQ bI p2=[⟨0,1⟩]:=by unfold gQ;rw [if_neg (by decide)];exact congrArg (List.map (·.dot)) (gr Jm)
theorem Lb:gQ bI p3=[⟨0,2⟩,⟨0,1⟩]:=by unfold gQ;rw [if_neg (by decide)];exact congrArg (List.map (·.dot)) (gr FP)
theorem Lc:gQ bI p4=[⟨0,2⟩,⟨0,1⟩]:=by unfold gQ;rw [if_neg (by decide)];exact congrArg (List.map (·.dot)) (gr FP)
theorem Ld:gQ bI p5=[⟨0,1⟩]:=by unfold gQ;rw [if_neg (by decide)];exact congrArg (List.map (·.dot)) (gr Jm)
theorem oP {d:Dt}{o:ag}{C:List Dt}(hg:dx bI d=true)(ho:j0 bI d=o)(hc:gQ bI o=C):dR bI d=if decide ((⟨0,2⟩:Dt)∈C) && !o.before p5 then [⟨1,1⟩] else []:=by
 have k1:decide (p1.kind=2)=false:=rfl;have k2:decide (p2.kind=2)=false:=rfl;have k3:decide (p3.kind=2)=false:=rfl;have k4:decide (p4.kind=2)=false:=rfl;have k5:decide (p5.kind=2)=true:=rfl;have a5:p5.at_=⟨0,2⟩:=rfl;unfold dR;rw [if_pos hg,Gr];simp only [List.filter_cons,List.filter_nil,mA,uQ,Od,Oe,Of,Og,Oh,ho,hc,k1,k2,k3,k4,k5,a5,Bool.false_and,Bool.true_and,if_false,Bool.false_eq_true]
theorem NP:dR bI ⟨0,1⟩=[]:=(oP Oi Od K_).trans (by decide)
theorem NQ:dR bI ⟨0,2⟩=[]:=(oP Oj Oe La).trans (by decide)
theorem NR:dR bI ⟨0,3⟩=[]:=(oP Ol Of Lb).trans (by decide)
theorem OO:dR bI ⟨0,4⟩=[⟨1,1⟩]:=(oP Om Og Lc).trans (by decide)
theorem M6:dR bI ⟨1,1⟩=[]:=(oP Oo Oh Ld).trans (by decide)
theorem jX {l:List ag}(hl:l.length≤80){d:Dt}(h:dR l d=[]):pY l d=[d]:=by
 have e:mE l d 1=[d]:=by
  rw [kT (show (mE l d 0)[0]? =some d from rfl),h];rfl
 rw [← zx hl (i:=1) (by rw [e];rfl),e]
theorem xP:pY bI ⟨0,4⟩=[⟨0,4⟩,⟨1,1⟩]:=by
 have e1:mE bI ⟨0,4⟩ 1=[⟨0,4⟩,⟨1,1⟩]:=by
  rw [kT (show (mE bI ⟨0,4⟩ 0)[0]? =some ⟨0,4⟩ from rfl),OO];rfl
 have e2:mE bI ⟨0,4⟩ 2=[⟨0,4⟩,⟨1,1⟩]:=by
  rw [kT (show (mE bI ⟨0,4⟩ 1)[1]? =some ⟨1,1⟩ by rw [e1];rfl),M6,e1];rfl
 rw [← zx (by decide) (i:=2) (by rw [e2];rfl),e2]
theorem fM:iR bI=[⟨0,1⟩,⟨0,2⟩,⟨0,3⟩,⟨0,4⟩,⟨1,1⟩]:=Jo
theorem j3 {st:aB}{d:Dt}{N:List Dt}(hd:d∈iR bI)(hn:pY bI d=N):dy bI st d=Dt.set (N.filter fun e=> !st.bA e):=by
 rw [← CZ (by decide) hd,hn]
theorem set_nil:Dt.set []=[]:=(Dt.ru _).symm.trans (by kernel_rfl)
theorem tB (d:Dt):Dt.set [d]=[d]:=by
 refine Dt.iZ (Dt.jA _) (List.pairwise_singleton _ _) fun v=>by rw [Dt.mem_set]
theorem NS:((iR bI).filter fun d=>decide (dy bI (g_ 4) d=[]))=[⟨0,1⟩,⟨0,2⟩,⟨0,3⟩]:=by
 have w1:dy bI (g_ 4) ⟨0,1⟩=[]:=(j3 (by rw [fM];decide) (jX (by decide) NP)).trans (by rw [show List.filter (fun e=> !(g_ 4).bA e) [(⟨0,1⟩:Dt)]=[] by decide,set_nil])
 have w2:dy bI (g_ 4) ⟨0,2⟩=[]:=(j3 (by rw [fM];decide) (jX (by decide) NQ)).trans (by rw [show List.filter (fun e=> !(g_ 4).bA e) [(⟨0,2⟩:Dt)]=[] by decide,set_nil])
 have w3:dy bI (g_ 4) ⟨0,3⟩=[]:=(j3 (by rw [fM];decide) (jX (by decide) NR)).trans (by rw [show List.filter (fun e=> !(g_ 4).bA e) [(⟨0,3⟩:Dt)]=[] by decide,set_nil])
 have w4:dy bI (g_ 4) ⟨0,4⟩=[⟨1,1⟩]:=(j3 (by rw [fM];decide) xP).trans (by rw [show List.filter (fun e=> !(g_ 4).bA e) [(⟨0,4⟩:Dt),⟨1,1⟩]=[⟨1,1⟩] by decide,tB])
 have w5:dy bI (g_ 4) ⟨1,1⟩=[⟨1,1⟩]:=(j3 (by rw [fM];decide) (jX (by decide) M6)).trans (by rw [show List.filter (fun e=> !(g_ 4).bA e) [(⟨1,1⟩:Dt)]=[⟨1,1⟩] by decide,tB])
 rw [fM];simp only [List.filter_cons,List.filter_nil,w1,w2,w3,w4,w5,decide_true,if_true];rfl
theorem ML:((iR bI).filter fun d=>decide (dy bI (jd 4 1) d=[]))=[⟨0,1⟩,⟨0,2⟩,⟨0,3⟩,⟨0,4⟩,⟨1,1⟩]:=by
 have w1:dy bI (jd 4 1) ⟨0,1⟩=[]:=(j3 (by rw [fM];decide) (jX (by decide) NP)).trans (by rw [show List.filter (fun e=> !(jd 4 1).bA e) [(⟨0,1⟩:Dt)]=[] by decide,set_nil])
 have w2:dy bI (jd 4 1) ⟨0,2⟩=[]:=(j3 (by rw [fM];decide) (jX (by decide) NQ)).trans (by rw [show List.filter (fun e=> !(jd 4 1).bA e) [(⟨0,2⟩:Dt)]=[] by decide,set_nil])
 have w3:dy bI (jd 4 1) ⟨0,3⟩=[]:=(j3 (by rw [fM];decide) (jX (by decide) NR)).trans (by rw [show List.filter (fun e=> !(jd 4 1).bA e) [(⟨0,3⟩:Dt)]=[] by decide,set_nil])
 have w4:dy bI (jd 4 1) ⟨0,4⟩=[]:=(j3 (by rw [fM];decide) xP).trans (by rw [show List.filter (fun e=> !(jd 4 1).bA e) [(⟨0,4⟩:Dt),⟨1,1⟩]=[] by decide,set_nil])
 have w5:dy bI (jd 4 1) ⟨1,1⟩=[]:=(j3 (by rw [fM];decide) (jX (by decide) M6)).trans (by rw [show List.filter (fun e=> !(jd 4 1).bA e) [(⟨1,1⟩:Dt)]=[] by decide,set_nil])
 rw [fM];simp only [List.filter_cons,List.filter_nil,w1,w2,w3,w4,w5,decide_true,if_true]
theorem MN:((iR bI).filter fun d=>decide (dy bI (jd 3 1) d=[]))=[⟨0,1⟩,⟨0,2⟩,⟨0,3⟩,⟨1,1⟩]:=by
 have w1:dy bI (jd 3 1) ⟨0,1⟩=[]:=(j3 (by rw [fM];decide) (jX (by decide) NP)).trans (by rw [show List.filter (fun e=> !(jd 3 1).bA e) [(⟨0,1⟩:Dt)]=[] by decide,set_nil])
 have w2:dy bI (jd 3 1) ⟨0,2⟩=[]:=(j3 (by rw [fM];decide) (jX (by decide) NQ)).trans (by rw [show List.filter (fun e=> !(jd 3 1).bA e) [(⟨0,2⟩:Dt)]=[] by decide,set_nil])
 have w3:dy bI (jd 3 1) ⟨0,3⟩=[]:=(j3 (by rw [fM];decide) (jX (by decide) NR)).trans (by rw [show List.filter (fun e=> !(jd 3 1).bA e) [(⟨0,3⟩:Dt)]=[] by decide,set_nil])
 have w4:dy bI (jd 3 1) ⟨0,4⟩=[⟨0,4⟩]:=(j3 (by rw [fM];decide) xP).trans (by rw [show List.filter (fun e=> !(jd 3 1).bA e) [(⟨0,4⟩:Dt),⟨1,1⟩]=[⟨0,4⟩] by decide,tB])
 have w5:dy bI (jd 3 1) ⟨1,1⟩=[]:=(j3 (by rw [fM];decide) (jX (by decide) M6)).trans (by rw [show List.filter (fun e=> !(jd 3 1).bA e) [(⟨1,1⟩:Dt)]=[] by decide,set_nil])
 rw [fM];simp only [List.filter_cons,List.filter_nil,w1,w2,w3,w4,w5,decide_true,if_true];rfl
theorem MO:jW bI (g_ 4) ⟨0,4⟩= .dw [bp [⟨1,1⟩],i64 0]:=by
 have w4:dy bI (g_ 4) ⟨0,4⟩=[⟨1,1⟩]:=(j3 (by rw [fM];decide) xP).trans (by rw [show List.filter (fun e=> !(g_ 4).bA e) [(⟨0,4⟩:Dt),⟨1,1⟩]=[⟨1,1⟩] by decide,tB])
 unfold jW;rw [if_pos (by kernel_rfl),w4]
theorem MP:jW bI (g_ 4) ⟨0,5⟩= .dw [.d .aK,i64 7]:=by
 unfold jW;rw [if_neg (by rw [show (aJ bI ⟨0,5⟩).isSome=false by kernel_rfl];decide)]
end
section
attribute [local irreducible] SW RW aG SC ai aq jQ zc
set_option maxHeartbeats 4000000 in
theorem Gs (l:List ag)(hl:l.length≤80)(hd:nV l)(st:aB):Go.Sl.Pure Tryz.prog final_Verdicts.f [ops l,.agg st.cells] (bp ((iR l).filter fun d=>decide (dy l st d=[]))):=by
 refine final_Verdicts.enter (by first | rfl | simp [SV.ok,SV.ay]) (by first | rfl | simp [Hp.ok,Ob.ok,SV.ok,SV.ay,aB.aj]) (by simp) ?_
 dsimp only [final_Verdicts.s,Co.M,Co.G,Co.J,Co.H,Co.N,Co.F,Co.C,Co.Z,Co.B,Co.b8,Co.ax,Co.bC,Co.i6,Co.z8,Co.bF];refine SW.seq ?_;refine SW.g0 [0,1,3,4,5] mixed af ?_;refine SW.seq (SW.ve ?_)
 (repeat (first | refine bq.op af (h:= ?_) | refine bq.di af (h:= ?_) | refine bq.skip (h:= ?_)))
 refine bq.aM (Gc l hl hd st) (HSub.nil _) (h:= ?_);rintro _ _ ⟨S,h,rfl,rfl⟩;simp only [bQ,bV,bW,fE,fD,cZ,lk,List.lookup,Nat.reduceBEq,BEq.rfl,beq_self_eq_true,if_true,if_false,reduceIte,Nat.reduceEqDiff,Bool.false_eq_true,Option.isSome_some,Option.isSome_none,Nat.reduceAdd]
 (repeat (first | refine bq.op af (h:= ?_) | refine bq.di af (h:= ?_) | refine bq.skip (h:= ?_)))
 refine bq.nil ?_;have cV:=Gd h hl st;rw [BL h st];generalize (iR l).filter (n_ l st)=R at cV ⊢;refine SW.seq (SW.ve ?_)
 (repeat (first | refine bq.op af (h:= ?_) | refine bq.di af (h:= ?_) | refine bq.skip (h:= ?_)))
 refine bq.aM cV (fun n ob hn=> ?_) (h:= ?_)
 ·show lk (zl S h.X st ⟨[],0⟩++[(0,Ob.box 39 st.cells)]) n=some ob
  rw [jt,hn];rfl
 intro r F hh;obtain ⟨K',h1,h2⟩:=hh;subst h1;subst h2;simp only [bQ,bV,bW,fE,fD,cZ,lk,List.lookup,Nat.reduceBEq,BEq.rfl,beq_self_eq_true,if_true,if_false,reduceIte,Nat.reduceEqDiff,Bool.false_eq_true,Option.isSome_some,Option.isSome_none,Nat.reduceAdd]
 (repeat (first | refine bq.op af (h:= ?_) | refine bq.di af (h:= ?_) | refine bq.skip (h:= ?_)))
 refine bq.nil ?_;refine SW.freeze 21 (R.flatMap Dt.ds) rfl rfl ?_;simp only [jS,SV.iT,List.map_cons,List.map_nil,if_true,if_false,reduceIte,Nat.reduceEqDiff];refine SW.ret ?_;exact End.mk [] (h4:=⟨rfl,rfl⟩)
theorem rF (l:List ag)(hl:l.length≤80)(hd:nV l)(st:aB)(k:Nat):aG Tryz.prog final_Verdicts.f [ops l,.agg st.cells] [] k 0 (bp ((iR l).filter fun d=>decide (dy l st d=[]))) []:=(Gs l hl hd st).sc rfl k
set_option maxHeartbeats 4000000 in
theorem Gt (l:List ag)(hl:l.length≤80)(hd:nV l)(st:aB):Go.Sl.Pure Tryz.prog final_Outcomes.f [ops l,.agg st.cells] (bp (zy l ((iR l).filter fun d=>decide (dy l st d=[])) (iR l))):=by
 refine final_Outcomes.enter (by first | rfl | simp [SV.ok,SV.ay]) (by first | rfl | simp [Hp.ok,Ob.ok,SV.ok,SV.ay,aB.aj]) (by simp) ?_
 dsimp only [final_Outcomes.s,Co.M,Co.G,Co.J,Co.H,Co.N,Co.F,Co.C,Co.Z,Co.B,Co.b8,Co.ax,Co.bC,Co.i6,Co.z8,Co.bF];refine SW.seq ?_;refine SW.g0 [0,1,3,4,5,6] mixed af ?_;refine SW.seq (SW.ve ?_)
 (repeat (first | refine bq.op af (h:= ?_) | refine bq.di af (h:= ?_) | refine bq.skip (h:= ?_)))
 refine bq.aM (Gc l hl hd st) (HSub.nil _) (h:= ?_);rintro _ _ ⟨S,h,rfl,rfl⟩;simp only [bQ,bV,bW,fE,fD,cZ,lk,List.lookup,Nat.reduceBEq,BEq.rfl,beq_self_eq_true,if_true,if_false,reduceIte,Nat.reduceEqDiff,Bool.false_eq_true,Option.isSome_some,Option.isSome_none,Nat.reduceAdd]
 (repeat (first | refine bq.op af (h:= ?_) | refine bq.di af (h:= ?_) | refine bq.skip (h:= ?_)))
 refine bq.nil ?_;have cV:=Gn h hl (h.short hd) st;rw [IP h st];have cD:=BG h hl st ⟨[],0⟩;generalize (iR l).filter (AJ l st)=R at cV ⊢;generalize iR l=D at cV cD;have a0:=FY st 12 16 17;have al:(0+1≤(sP st 12 16 17).length)=True:=eq_true (by rw [zi];decide)
 have s1:cA [SV.d .jR] 0 [SV.ptr 18 0]=[SV.ptr 18 0]:=rfl;have s2:cA [SV.d .aK] 0 [SV.gs 21 D.length]=[SV.gs 21 D.length]:=rfl;refine SW.seq ?_;refine SW.g1 [0,1,3,4,5,6] mixed (And.intro (a0) (And.intro (al) (And.intro (s1) (s2)))) cD ?_;refine SW.seq (SW.ve ?_)
 (repeat (first | refine bq.op af (h:= ?_) | refine bq.di af (h:= ?_) | refine bq.skip (h:= ?_)))
 refine bq.aM cV (fun n ob hn=> ?_) (h:= ?_)
 ·have:lk (oH S h.X st ⟨[],0⟩ D++[(0,Ob.box 39 st.cells)]) n=some ob:=by rw [jt,hn];rfl
  exact this
 intro r F hh;obtain ⟨K',h1,h2⟩:=hh;subst h1;subst h2;simp only [bQ,bV,bW,fE,fD,cZ,lk,List.lookup,Nat.reduceBEq,BEq.rfl,beq_self_eq_true,if_true,if_false,reduceIte,Nat.reduceEqDiff,Bool.false_eq_true,Option.isSome_some,Option.isSome_none,Nat.reduceAdd]
 (repeat (first | refine bq.op af (h:= ?_) | refine bq.di af (h:= ?_) | refine bq.skip (h:= ?_)))
 refine bq.nil ?_;refine SW.freeze 25 (R.flatMap Dt.ds) rfl rfl ?_;simp only [jS,SV.iT,List.map_cons,List.map_nil,if_true,if_false,reduceIte,Nat.reduceEqDiff];refine SW.ret ?_;exact End.mk [] (h4:=⟨rfl,rfl⟩)
theorem Gu (l:List ag)(hl:l.length≤80)(hd:nV l)(st:aB)(k:Nat):aG Tryz.prog final_Outcomes.f [ops l,.agg st.cells] [] k 0 (bp (zy l ((iR l).filter fun d=>decide (dy l st d=[])) (iR l))) []:=(Gt l hl hd st).sc rfl k
end
section
attribute [local irreducible] SW RW aG SC ai aq jQ zc
theorem MQ {P:Program}{env:List (Nat×SV)}{hp:Hp}{k d p q s:Nat}{g:Option (Nat×Bool)}{r:List SI}{K:St→List (Bool×List Nat)→Prop}(a b c:Dt)
  (hg:g=none∨∃ t w,g=some (t,w)∧env.lookup t=some (.d (.bool w))) (ha:env.lookup p=some (.agg a.cells)) (hb:env.lookup q=some (.agg b.cells)) (hc:env.lookup s=some (.agg c.cells))
  (h:RW P r ⟨(d,bp [a,b,c])::env,hp,k⟩ fun st' ts=>K st' ((false,[])::ts)):RW P (⟨some d,.mF 37 2 3 [.d (.int .u8 0),.d (.int .u32 0),.d (.int .u8 0),.d (.int .u32 0),.d (.int .u8 0),.d (.int .u32 0)] [(0,2,.t p),(2,2,.t q),(4,2,.t s)],g⟩::r) ⟨env,hp,k⟩ K:=by
 refine RW.cons (e:=⟨bp [a,b,c],[],[],0,(2=2∧0+2≤6∧2=2∧2+2≤6∧2=2∧4+2≤6∧True)⟩) (fun dK=>⟨.iT::dK,fK hg ?_⟩) (by show (2=2∧0+2≤6∧2=2∧2+2≤6∧2=2∧4+2≤6∧True);decide) ?_
 ·have h1:vv (fun t=>env.lookup t) [(0,2,X.t p),(2,2,X.t q),(4,2,X.t s)]=some [(0,2,.agg a.cells),(2,2,.agg b.cells),(4,2,.agg c.cells)]:=by
   simp only [vv,ev,ha,hb,hc]
  have h2:lW [SV.d (.int .u8 0),SV.d (.int .u32 0),SV.d (.int .u8 0),SV.d (.int .u32 0),SV.d (.int .u8 0),SV.d (.int .u32 0)] [(0,2,.agg a.cells),(2,2,.agg b.cells),(4,2,.agg c.cells)]=some (a.cells++(b.cells++c.cells),(2=2∧0+2≤6∧2=2∧2+2≤6∧2=2∧4+2≤6∧True)):=rfl;have h3:eS (a.cells++(b.cells++c.cells))=some ([a,b,c].flatMap Dt.ds):=rfl;have h4:(a.cells++(b.cells++c.cells)).all SV.dL=true:=rfl;simp only [eW,dG,h1,h2,h3,h4,if_true,Bool.false_or];rfl
 ·exact h
theorem MR {P:Program}{env:List (Nat×SV)}{hp:Hp}{k d p q s v:Nat}{g:Option (Nat×Bool)}{r:List SI}{K:St→List (Bool×List Nat)→Prop}(a b c e:Dt)
  (hg:g=none∨∃ t w,g=some (t,w)∧env.lookup t=some (.d (.bool w))) (ha:env.lookup p=some (.agg a.cells)) (hb:env.lookup q=some (.agg b.cells)) (hc:env.lookup s=some (.agg c.cells)) (he:env.lookup v=some (.agg e.cells))
  (h:RW P r ⟨(d,bp [a,b,c,e])::env,hp,k⟩ fun st' ts=>K st' ((false,[])::ts)):RW P (⟨some d,.mF 37 2 4 [.d (.int .u8 0),.d (.int .u32 0),.d (.int .u8 0),.d (.int .u32 0),.d (.int .u8 0),.d (.int .u32 0),.d (.int .u8 0),.d (.int .u32 0)] [(0,2,.t p),(2,2,.t q),(4,2,.t s),(6,2,.t v)],g⟩::r) ⟨env,hp,k⟩ K:=by
 refine RW.cons (e:=⟨bp [a,b,c,e],[],[],0,(2=2∧0+2≤8∧2=2∧2+2≤8∧2=2∧4+2≤8∧2=2∧6+2≤8∧True)⟩) (fun dK=>⟨.iT::dK,fK hg ?_⟩) (by show (2=2∧0+2≤8∧2=2∧2+2≤8∧2=2∧4+2≤8∧2=2∧6+2≤8∧True);decide) ?_
 ·have h1:vv (fun t=>env.lookup t) [(0,2,X.t p),(2,2,X.t q),(4,2,X.t s),(6,2,X.t v)]=some [(0,2,.agg a.cells),(2,2,.agg b.cells),(4,2,.agg c.cells),(6,2,.agg e.cells)]:=by
   simp only [vv,ev,ha,hb,hc,he]
  have h2:lW [SV.d (.int .u8 0),SV.d (.int .u32 0),SV.d (.int .u8 0),SV.d (.int .u32 0),SV.d (.int .u8 0),SV.d (.int .u32 0),SV.d (.int .u8 0),SV.d (.int .u32 0)] [(0,2,.agg a.cells),(2,2,.agg b.cells),(4,2,.agg c.cells),(6,2,.agg e.cells)]=some (a.cells++(b.cells++(c.cells++e.cells)),(2=2∧0+2≤8∧2=2∧2+2≤8∧2=2∧4+2≤8∧2=2∧6+2≤8∧True)):=rfl;have h3:eS (a.cells++(b.cells++(c.cells++e.cells)))=some ([a,b,c,e].flatMap Dt.ds):=rfl;have h4:(a.cells++(b.cells++(c.cells++e.cells))).all SV.dL=true:=rfl;simp only [eW,dG,h1,h2,h3,h4,if_true,Bool.false_or];rfl
 ·exact h
set_option maxRecDepth 100000 in
set_option maxHeartbeats 4000000 in
theorem C5:Go.Sl.Pure Tryz.prog law20_row.f [] (ops [q1,q2,q3,q4,q5]):=by
 refine law20_row.enter (by first | rfl | simp [SV.ok,SV.ay]) (by first | rfl | simp [Hp.ok,Ob.ok,SV.ok,SV.ay,aB.aj]) (by simp) ?_
 dsimp only [law20_row.s,Co.M,Co.G,Co.J,Co.H,Co.N,Co.F,Co.C,Co.Z,Co.B,Co.b8,Co.ax,Co.bC,Co.i6,Co.z8,Co.bF];refine SW.seq ?_;refine SW.g0 [0,1] mixed af ?_;refine SW.seq ?_;refine SW.g0 [0,1] mixed af ?_;refine SW.seq ?_
 (refine SW.bM [0,1] mixed ?_;(repeat (first | refine RW.FO q1.cells rfl rfl (by decide) (h:= ?_) | refine RW.FO q2.cells rfl rfl (by decide) (h:= ?_) | refine RW.FO q3.cells rfl rfl (by decide) (h:= ?_) | refine RW.FO q4.cells rfl rfl (by decide) (h:= ?_) | refine RW.FO q5.cells rfl rfl (by decide) (h:= ?_) | refine ND q1 q2 q3 q4 q5 rfl rfl rfl rfl rfl rfl (h:= ?_) | refine RW.ro af (h:= ?_) | refine RW.skip (h:= ?_) | refine RW.op af (h:= ?_) | refine RW.di af (h:= ?_) | refine RW.aU (h:= ?_)));refine RW.nil ⟨by kernel_rfl,aq.mk (h:= ?_)⟩)
 refine SW.ret ?_;exact End.mk [] (h4:=⟨rfl,rfl⟩)
theorem C6 (k:Nat):aG Tryz.prog law20_row.f [] [] k 0 (ops bI) []:=by
 have h0:aG Tryz.prog law20_row.f [] [] k 0 (ops [q1,q2,q3,q4,q5]) []:=C5.sc rfl k;refine SC.Ml h0 fun p μ M u hu=> ?_
 rw [Rp.cR] at hu ⊢;have:=bZ.N1 hu;rw [← D2] at this;exact this
theorem oQ:nV bI:=FQ
theorem OP (k:Nat):aG Tryz.prog final_Verdicts.f [ops bI,.agg (g_ 4).cells] [] k 0 (bp [⟨0,1⟩,⟨0,2⟩,⟨0,3⟩]) []:=by
 have:=rF bI (by decide) oQ (g_ 4) k
 rwa [NS] at this
theorem NT (k:Nat):aG Tryz.prog final_Verdicts.f [ops bI,.agg (jd 4 1).cells] [] k 0 (bp [⟨0,1⟩,⟨0,2⟩,⟨0,3⟩,⟨0,4⟩,⟨1,1⟩]) []:=by
 have:=rF bI (by decide) oQ (jd 4 1) k
 rwa [ML] at this
theorem NU (k:Nat):aG Tryz.prog final_Verdicts.f [ops bI,.agg (jd 3 1).cells] [] k 0 (bp [⟨0,1⟩,⟨0,2⟩,⟨0,3⟩,⟨1,1⟩]) []:=by
 have:=rF bI (by decide) oQ (jd 3 1) k
 rwa [MN] at this
theorem NV (k:Nat):aG Tryz.prog final_Waits.f [ops bI,.agg (g_ 4).cells,.agg (Dt.mk 0 4).cells] [] k 0 (.dw [bp [⟨1,1⟩],.d (.int .i64 0)]) []:=by
 have:=qt bI (by decide) oQ (g_ 4) ⟨0,4⟩ k
 rwa [MO] at this
theorem NW (k:Nat):aG Tryz.prog final_Waits.f [ops bI,.agg (g_ 4).cells,.agg (Dt.mk 0 5).cells] [] k 0 (.dw [.d .aK,.d (.int .i64 7)]) []:=by
 have:=qt bI (by decide) oQ (g_ 4) ⟨0,5⟩ k
 rwa [MP] at this
theorem v4:cA aB.zero.cells 0 [.d (.int .u32 4)]=(g_ 4).cells:=rfl
theorem v3:cA aB.zero.cells 0 [.d (.int .u32 3)]=(g_ 3).cells:=rfl
theorem v41:cA (g_ 4).cells 1 [.d (.int .u32 1)]=(jd 4 1).cells:=rfl
theorem v31:cA (g_ 3).cells 1 [.d (.int .u32 1)]=(jd 3 1).cells:=rfl
theorem e5:cA (Dt.mk 0 0).cells 1 [.d (.int .u32 5)]=(Dt.mk 0 5).cells:=rfl
theorem OQ:cA (Dt.mk 0 0).cells 1 [.d (.int .u32 1)]=(Dt.mk 0 1).cells:=rfl
theorem OR:cA (Dt.mk 0 0).cells 1 [.d (.int .u32 2)]=(Dt.mk 0 2).cells:=rfl
theorem NX:cA (cA (Dt.mk 0 0).cells 0 [.d (.int .u8 1)]) 1 [.d (.int .u32 1)]=(Dt.mk 1 1).cells:=rfl
theorem l5:((([⟨0,1⟩,⟨0,2⟩,⟨0,3⟩,⟨0,4⟩,⟨1,1⟩]:List Dt).length:Int) == 5)=true:=rfl
theorem OS (k:Nat):aG Tryz.prog ref03_Same.f [bp [⟨0,1⟩,⟨0,2⟩,⟨0,3⟩],bp [⟨0,1⟩,⟨0,2⟩,⟨0,3⟩]] [] k 0 (.d (.bool true)) []:=xb [⟨0,1⟩,⟨0,2⟩,⟨0,3⟩] [⟨0,1⟩,⟨0,2⟩,⟨0,3⟩] (by decide) (by decide) k
theorem OU (k:Nat):aG Tryz.prog ref03_Same.f [bp [⟨0,1⟩,⟨0,2⟩,⟨0,3⟩,⟨1,1⟩],bp [⟨0,1⟩,⟨0,2⟩,⟨0,3⟩,⟨1,1⟩]] [] k 0 (.d (.bool true)) []:=xb [⟨0,1⟩,⟨0,2⟩,⟨0,3⟩,⟨1,1⟩] [⟨0,1⟩,⟨0,2⟩,⟨0,3⟩,⟨1,1⟩] (by decide) (by decide) k
theorem OV (k:Nat):aG Tryz.prog ref03_Same.f [bp [⟨1,1⟩],.d (.sl 1 (Dt.mk 1 1).ds)] [] k 0 (.d (.bool true)) []:=xb [⟨1,1⟩] [⟨1,1⟩] (by decide) (by decide) k
set_option maxHeartbeats 16000000 in
theorem C7:Go.Sl.Pure Tryz.prog law20_head.f [] (bl true):=by
 refine law20_head.enter (by first | rfl | simp [SV.ok,SV.ay]) (by first | rfl | simp [Hp.ok,Ob.ok,SV.ok,SV.ay,aB.aj]) (by simp) ?_
 dsimp only [law20_head.s,Co.M,Co.G,Co.J,Co.H,Co.N,Co.F,Co.C,Co.Z,Co.B,Co.b8,Co.ax,Co.bC,Co.i6,Co.z8,Co.bF];refine SW.seq ?_;refine SW.g0 [0,1,2,3,4,5,6,8] mixed af ?_;refine SW.seq ?_;refine SW.g1 [0,1,2,3,4,5,6,8] mixed af C6 ?_;refine SW.seq ?_;refine SW.g4 [0,1,2,3,4,5,6,8] mixed (And.intro (v4) (And.intro (v3) (And.intro (v41) (v31)))) OP NT NU trivial ?_;refine SW.seq ?_;refine SW.g1 [0,1,2,3,4,5,6,8] mixed (And.intro (v4) (d4)) NV ?_;refine SW.seq ?_;refine SW.g1 [0,1,2,3,4,5,6,8] mixed (And.intro (v4) (e5)) NW ?_;refine SW.seq ?_
 (have fx:=(And.intro (OQ) (And.intro (OR) (And.intro (d3) (And.intro (NX) (l5)))));refine SW.bM [0,1,2,3,4,5,6,8] mixed ?_;(repeat (first | refine MQ (Dt.mk 0 1) (Dt.mk 0 2) (Dt.mk 0 3) (.inl rfl) rfl rfl rfl (h:= ?_) | refine MR (Dt.mk 0 1) (Dt.mk 0 2) (Dt.mk 0 3) (Dt.mk 1 1) (.inr (Exists.intro _ (Exists.intro _ (And.intro rfl rfl)))) rfl rfl rfl rfl (h:= ?_) | refine RW.ro fx (h:= ?_) | refine RW.skip (h:= ?_) | refine RW.op fx (h:= ?_) | refine RW.di fx (h:= ?_) | refine RW.aU (h:= ?_) | (refine RW.aM (h:= ?_);(first | refine ai.mk fx (hc:=OS _) (h:= ?_) | refine ai.mk fx (hc:=OU _) (h:= ?_) | refine ai.mk fx (hc:=OV _) (h:= ?_)))));refine RW.nil ⟨by kernel_rfl,aq.mk (h:= ?_)⟩)
 refine SW.ret ?_;exact End.mk [] (h4:=⟨rfl,rfl⟩)
theorem mC (k:Nat):aG Tryz.prog law20_head.f [] [] k 0 (.d (.bool true)) []:=C7.sc rfl k
end
section
attribute [local irreducible] SW RW aG SC ai aq jQ zc
theorem C8 (l:List ag)(st:aB)(d:Dt):(dy l st d).length≤l.length:=Nat.le_trans (List.length_filter_le _ _) (BI l)
end
section
attribute [local irreducible] SW RW aG SC ai aq jQ zc
noncomputable def nW (l:List ag)(st:aB)(d:Dt):List Dt:=if (aJ l d).isSome then dy l st d else []
noncomputable def BM (l:List ag)(d:Dt):Int:=if (aJ l d).isSome then 0 else 7
theorem C9 {l:List ag}(hl:l.length≤80)(hd:nV l)(st:aB)(d:Dt)(k:Nat):aG Tryz.prog final_Waits.f [ops l,.agg st.cells,.agg d.cells] [] k 0 (.dw [bp (nW l st d),.d (.int .i64 (BM l d))]) []:=by
 have h:=qt l hl hd st d k;unfold aG at h ⊢;refine SC.res h ?_;rintro r F ⟨rfl,rfl⟩;refine ⟨_,⟨rfl,rfl⟩,fun p μ M u hu=> ?_⟩
 unfold jW at hu;unfold nW BM;cases hg:(aJ l d).isSome with
 | true=>rw [hg] at hu;exact hu
 | false=>
  rw [hg] at hu;simp only [Bool.false_eq_true,if_false] at hu ⊢;obtain ⟨vs,rfl,h1⟩:=Rp.dF.1 hu;obtain ⟨u1,us,e1,h2,h3⟩:=aW.aD.1 h1;exact Rp.dF.2 ⟨vs,rfl,e1 ▸ aW.aD.2 ⟨u1,us,rfl,lB _ _ _ _ h2,h3⟩⟩
theorem C_ {l:List ag}{st:aB}{d x t:Dt}(h0:∀ e,st.bA e=false)(hx:x∈nW l st d)(ht:t∈dR l x):t∈nW l st d:=by
 unfold nW at hx ⊢
 split at hx
 ·rename_i hf
  rw [if_pos hf];obtain ⟨_,h2,_⟩:=jB.1 hx;exact jB.2 ⟨uV (qp ht),h2.trans (.step ht (.refl _)),h0 t⟩
 ·cases hx
theorem AN {l:List ag}{st:aB}{d:Dt}(h0:∀ e,st.bA e=false)(hf:(aJ l d).isSome=true):d∈nW l st d:=by
 unfold nW;rw [if_pos hf];exact jB.2 ⟨xN.2 hf,.refl _,h0 d⟩
theorem C' (l:List ag)(st:aB)(d:Dt):(nW l st d).length≤l.length:=by
 unfold nW
 split
 ·exact C8 l st d
 ·exact Nat.zero_le _
theorem Da {l:List ag}{st:aB}(h0:∀ e,st.bA e=false):((iR l).filter fun d=>decide (dy l st d=[]))=[]:=by
 rw [List.filter_eq_nil_iff];intro d hd h;have h1:d∈dy l st d:=jB.2 ⟨hd,.refl _,h0 d⟩;rw [of_decide_eq_true h] at h1;cases h1
theorem oR (e:Dt):aB.zero.bA e=false:=by
 have hg:aB.zero.get e.r=0:=by
  unfold aB.get aB.zero
  split <;> rfl
 unfold aB.bA;rw [hg];cases hm:e.may with
 | false=>rfl
 | true=>
  have:1≤e.n:=by
   simp only [Dt.may,Bool.and_eq_true,decide_eq_true_eq] at hm;omega
  simp;omega
set_option maxHeartbeats 16000000 in
theorem vr (l:List ag)(d:Dt)(hd:∀ o,o∈l→o.aQ<256∧o.kind<256∧o.nQ∧o.dot.wf∧o.cl.length≤140737488351232)(hlen:l.length≤9223372036854775807):
  SB Tryz.prog law20_FinalNothing.f [ops l,.agg d.cells] [] 0 0 (fun r F=>r=bl true):=by
 refine law20_FinalNothing.enter (by first | rfl | simp [SV.ok,SV.ay]) (by first | rfl | simp [Hp.ok,Ob.ok,SV.ok,SV.ay,aB.aj]) (by simp) ?_
 dsimp only [law20_FinalNothing.s,Co.M,Co.G,Co.J,Co.H,Co.N,Co.F,Co.C,Co.Z,Co.B,Co.b8,Co.ax,Co.bC,Co.i6,Co.z8,Co.bF];have hG':=D9 l (fun o ho=>⟨_,_,(hd o ho).2.2.1.eq,(hd o ho).2.2.1.le⟩) hlen
 refine SW.seq ?_;refine SW.g0 [0,1,3,4,5,6,8,9,10,12,19,49,56,60,75,84] mixed af ?_;refine SW.seq (SW.seq ?_);rcases hG:jv l with _ | _
 rotate_left
 ·rw [hG] at hG'
  refine SW.g2 [0,1,3,4,5,6,8,9,10,12,19,49,56,60,75,84] mixed af hG' mC ?_;refine SW.ak rfl (SW.seq ?_);refine SW.g2 [0,1,3,4,5,6,8,9,10,12,19,49,56,60,75,84] mixed af hG' mC ?_;refine SW.ret ?_;exact End.mk [] (h4:=rfl)
 rw [hG] at hG';have hl80:=vW hG;have hd':=y_ hG (fun o ho=>⟨(hd o ho).2.2.1,(hd o ho).2.2.2.2⟩)
 have hd3:∀ o,o∈l→o.aQ<256∧o.nQ∧o.dot.wf:=fun o ho=>⟨(hd o ho).1,(hd o ho).2.2.1,(hd o ho).2.2.2.1⟩
 have hrow:nV l:=fun o ho=>⟨(hd o ho).2.1,(hd o ho).2.2.1,hd' o ho⟩
 rcases h50:decide ((l.length:Int)>50) with _ | _
 rotate_left
 ·skip
  refine SW.g2 [0,1,3,4,5,6,8,9,10,12,19,49,56,60,75,84] mixed (h50) hG' mC ?_;refine SW.ak rfl (SW.seq ?_);refine SW.g2 [0,1,3,4,5,6,8,9,10,12,19,49,56,60,75,84] mixed af hG' mC ?_;refine SW.ret ?_;exact End.mk [] (h4:=rfl)
 refine SW.g1 [0,1,3,4,5,6,8,9,10,12,19,49,56,60,75,84] mixed (h50) hG' ?_;refine SW.ah rfl (SW.skip ?_);have c1:=C9 hl80 hrow aB.zero d;have hf:=oK l (by omega) d
 have c3:=rF l hl80 hrow aB.zero;have c5:=Gu l hl80 hrow aB.zero;rw [Da oR] at c3 c5;rw [show zy l [] (iR l)=[] from rfl] at c5;have hWc:∀ x,x∈nW l aB.zero d→∀ t,t∈dR l x→t∈nW l aB.zero d:=fun x hx t ht=>C_ oR hx ht
 have hWs:=AN (l:=l) (st:=aB.zero) (d:=d) oR;have hWl:=C' l aB.zero d;have hE:BM l d=if (aJ l d).isSome then 0 else 7:=rfl
 generalize BM l d=e at c1 hE;generalize nW l aB.zero d=W at c1 hWc hWs hWl;generalize (aJ l d).isSome=b at hf hWs hE;generalize j0 l d=o at hf;refine SW.seq ?_;refine SW.g1 [0,1,3,4,5,6,8,9,10,12,19,49,56,60,75,84] mixed af c1 ?_;refine SW.seq ?_;refine SW.g1 [0,1,3,4,5,6,8,9,10,12,19,49,56,60,75,84] mixed af hf ?_;refine SW.seq ?_;refine SW.cut (stM:=⟨[(49,bl false),(8,bl b),(5,bp W),(3,.ptr 0 0),(0,ops l)],[(0,.box 37 d.cells)],1⟩) id ?_ ?_
 ·cases b with
  | true=>
   rw [if_pos rfl] at hE;subst hE;refine SW.g2 [0,1,3,4,5,6,8,9,10,12,19,49,56,60,75,84] mixed af c3 c5 ?_;exact aP.mk af
  | false=>
   rw [if_neg (by decide)] at hE
   subst hE;refine SW.g2 [0,1,3,4,5,6,8,9,10,12,19,49,56,60,75,84] mixed af c3 c5 ?_;exact aP.mk af
 refine SW.ah rfl (SW.skip ?_);refine SW.seq ?_;refine SW.cut (stM:=⟨[(56,bl false),(5,bp W),(0,ops l)],[],0⟩) id ?_ ?_
 ·cases b with
  | true=>
   have cI:=gT W d (by omega)
   rw [decide_eq_true (hWs rfl)] at cI;refine SW.g1 [0,1,3,4,5,6,8,9,10,12,19,49,56,60,75,84] mixed af cI ?_;exact aP.mk af
  | false=>
   refine SW.g0 [0,1,3,4,5,6,8,9,10,12,19,49,56,60,75,84] mixed af ?_;exact aP.mk af
 refine SW.ah rfl (SW.skip ?_);refine SW.seq (SW.seq ?_);refine SW.g0 [0,1,3,4,5,6,8,9,10,12,19,49,56,60,75,84] mixed af ?_;refine SW.block ?_;refine SW.jN (α:={i:Nat // i≤W.length}) (fun i=>⟨[(9,i64 i.1),(5,bp W),(0,ops l)],[],0⟩) (fun i=>W.length - i.1) ⟨0,by omega⟩ id af (round:= ?_)
 rintro ⟨i,hi⟩;dsimp only
 by_cases h:i<W.length
 ·obtain ⟨x,hx⟩:=br h
  have h1:decide ((i:Int)<W.length)=true:=by simp only [decide_eq_true_eq];omega
  have e2:IntKind.i64.wrap ((i:Int)+1)=((i+1:Nat):Int):=wrap_i64 _ (by omega)
  have cT:=CY hl80 hd3 x;have hT:=hWc x (List.mem_of_getElem? hx);have hTl:(dR l x).length≤80:=by
   unfold dR
   split
   ·have h2:=List.length_filter_le (mA l x) (bD l)
    have h3:=sq hl80 hd3;omega
   ·decide
  generalize dx l x=gx at cT;generalize dR l x=T at cT hT hTl;refine SW.seq (SW.seq ?_);refine SW.g0 [0,1,3,4,5,6,8,9,10,12,19,49,56,60,75,84] mixed (h1) ?_;refine SW.ak rfl (SW.skip ?_);refine SW.seq (SW.block (SW.seq ?_));refine SW.g1 [0,1,3,4,5,6,8,9,10,12,19,49,56,60,75,84] mixed (dP hx) cT ?_;refine SW.seq ?_;refine SW.g0 [0,1,3,4,5,6,8,9,10,12,19,49,56,60,75,84] mixed af ?_;refine SW.block ?_;refine SW.jN (α:={j:Nat // j≤T.length}) (fun j=>⟨[(12,i64 j.1),(10,bp T),(9,i64 i),(5,bp W),(0,ops l)],[],0⟩) (fun j=>T.length - j.1) ⟨0,by omega⟩ id af (round:= ?_)
  rintro ⟨j,hj⟩;dsimp only
  by_cases hjl:j<T.length
  ·obtain ⟨t,ht⟩:=br hjl
   have j1:decide ((j:Int)<T.length)=true:=by simp only [decide_eq_true_eq];omega
   have e3:IntKind.i64.wrap ((j:Int)+1)=((j+1:Nat):Int):=wrap_i64 _ (by omega)
   have cI:=gT W t (by omega)
   rw [decide_eq_true (hT t (List.mem_of_getElem? ht))] at cI;refine SW.seq (SW.seq ?_);refine SW.g0 [0,1,3,4,5,6,8,9,10,12,19,49,56,60,75,84] mixed (j1) ?_;refine SW.ak rfl (SW.skip ?_);refine SW.seq (SW.block (SW.seq ?_));refine SW.g1 [0,1,3,4,5,6,8,9,10,12,19,49,56,60,75,84] mixed (dP ht) cI ?_;refine SW.ah rfl (SW.skip ?_);refine SW.g0 [0,1,3,4,5,6,8,9,10,12,19,49,56,60,75,84] mixed (e3) ?_;refine ⟨⟨j+1,by omega⟩,id,by show T.length - (j+1)<_;omega,?_⟩
   exact aP.mk af
  ·have j1:decide ((j:Int)<T.length)=false:=by simp only [decide_eq_false_iff_not];omega
   refine SW.seq (SW.seq ?_);refine SW.g0 [0,1,3,4,5,6,8,9,10,12,19,49,56,60,75,84] mixed (j1) ?_;refine SW.ah rfl (SW.exit ?_);refine SW.g0 [0,1,3,4,5,6,8,9,10,12,19,49,56,60,75,84] mixed (e2) ?_;refine ⟨⟨i+1,by omega⟩,id,by show W.length - (i+1)<_;omega,?_⟩
   exact aP.mk af
 ·have h1:decide ((i:Int)<W.length)=false:=by simp only [decide_eq_false_iff_not];omega
  refine SW.seq (SW.seq ?_);refine SW.g0 [0,1,3,4,5,6,8,9,10,12,19,49,56,60,75,84] mixed (h1) ?_;refine SW.ah rfl (SW.exit ?_);refine (?_:Sl.SW _ _ _ _ _ _);refine SW.seq ?_;refine SW.g1 [0,1,3,4,5,6,8,9,10,12,19,49,56,60,75,84] mixed af mC ?_;refine SW.ret ?_;exact End.mk [] (h4:=rfl)
end
end Go.Proofs.YtaelhkkjgfobhaaGreat
