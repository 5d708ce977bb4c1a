/-
 Final: the head's row, what is said of it (plain).
-/
import Derived.Test.YtaelhkkjgfobhaaGreatP9
import Derived.Test.YtaelhkkjgfobhaaGreatPS
import Derived.Test.YtaelhkkjgfobhaaGreatP6
import Derived.Test.YtaelhkkjgfobhaaGreatPX
set_option linter.unusedSectionVars false
set_option linter.unusedVariables false
set_option linter.unusedSimpArgs false
namespace Go.Proofs.YtaelhkkjgfobhaaGreat
open Go.Sl Go.Proofs
section
def jo (a b:Nat):aB:=⟨a,b,0,0,0,0,0,0⟩
theorem OQ:i_ bL ⟨0,1⟩=p1:=eM (by kernel_rfl)
theorem OR:i_ bL ⟨0,2⟩=p2:=eM (by kernel_rfl)
theorem OS:i_ bL ⟨0,3⟩=p3:=eM (by kernel_rfl)
theorem OU:i_ bL ⟨0,4⟩=p4:=eM (by kernel_rfl)
theorem OV:i_ bL ⟨1,1⟩=p5:=eM (by kernel_rfl)
theorem oV {l:List ag}{d:Dt}{o:ag}(h:aS l d=some o)(hw:gI l o=0):di l d=true:=by
 unfold di;rw [h];simp [hw]
theorem OW:di bL ⟨0,1⟩=true:=oV (o:=p1) (by kernel_rfl) MZ
theorem OX:di bL ⟨0,2⟩=true:=oV (o:=p2) (by kernel_rfl) M3
theorem OY:di bL ⟨0,3⟩=true:=oV (o:=p3) (by kernel_rfl) M4
theorem OZ:di bL ⟨0,4⟩=true:=oV (o:=p4) (by kernel_rfl) M5
theorem O0:di bL ⟨1,1⟩=true:=oV (o:=p5) (by kernel_rfl) M6
theorem GX:bI bL=[⟨0,1⟩,⟨0,2⟩,⟨0,3⟩,⟨0,4⟩,⟨1,1⟩]:=by
 have e:oN bL=bL.map (·.dot):=by
  unfold oN;rw [List.filter_eq_self.2];intro o ho;simp only [bL,List.mem_cons,List.not_mem_nil,or_false] at ho;rcases ho with rfl | rfl | rfl | rfl | rfl
  ·exact OW
  ·exact OX
  ·exact OY
  ·exact OZ
  ·exact O0
 unfold bI;rw [e];exact JT
theorem LD:gX bL p1=[]:=by unfold gX;rw [if_pos (by decide)]
theorem LF:gX bL p2=[⟨0,1⟩]:=by unfold gX;rw [if_neg (by decide)];exact congrArg (List.map (·.dot)) (gy JR)
theorem LG:gX bL p3=[⟨0,2⟩,⟨0,1⟩]:=by unfold gX;rw [if_neg (by decide)];exact congrArg (List.map (·.dot)) (gy Gi)
theorem LH:gX bL p4=[⟨0,2⟩,⟨0,1⟩]:=by unfold gX;rw [if_neg (by decide)];exact congrArg (List.map (·.dot)) (gy Gi)
theorem LI:gX bL p5=[⟨0,1⟩]:=by unfold gX;rw [if_neg (by decide)];exact congrArg (List.map (·.dot)) (gy JR)
theorem oW {d:Dt}{o:ag}{C:List Dt}(hg:di bL d=true)(ho:i_ bL d=o)(hc:gX bL o=C):dK bL d=if decide ((⟨0,2⟩:Dt)∈C) && !o.before p5 then [⟨1,1⟩] else []:=by
 have k1:decide (p1.kind=2)=false:=rfl;have k2:decide (p2.kind=2)=false:=rfl;have k3:decide (p3.kind=2)=false:=rfl;have k4:decide (p4.kind=2)=false:=rfl;have k5:decide (p5.kind=2)=true:=rfl;have a5:p5.at_=⟨0,2⟩:=rfl;unfold dK;rw [if_pos hg,GX];simp only [List.filter_cons,List.filter_nil,mK,u_,OQ,OR,OS,OU,OV,ho,hc,k1,k2,k3,k4,k5,a5,Bool.false_and,Bool.true_and,if_false,Bool.false_eq_true]
theorem Oq:dK bL ⟨0,1⟩=[]:=(oW OW OQ LD).trans (by decide)
theorem Ot:dK bL ⟨0,2⟩=[]:=(oW OX OR LF).trans (by decide)
theorem Ou:dK bL ⟨0,3⟩=[]:=(oW OY OS LG).trans (by decide)
theorem Pm:dK bL ⟨0,4⟩=[⟨1,1⟩]:=(oW OZ OU LH).trans (by decide)
theorem NB:dK bL ⟨1,1⟩=[]:=(oW O0 OV LI).trans (by decide)
theorem j7 {l:List ag}(hl:l.length≤80){d:Dt}(h:dK l d=[]):jY l d=[d]:=by
 have e:jm l d 1=[d]:=by
  rw [jZ (show (jm l d 0)[0]? =some d from rfl),h];rfl
 rw [← vh hl (i:=1) (by rw [e];rfl),e]
theorem yg:jY bL ⟨0,4⟩=[⟨0,4⟩,⟨1,1⟩]:=by
 have e1:jm bL ⟨0,4⟩ 1=[⟨0,4⟩,⟨1,1⟩]:=by
  rw [jZ (show (jm bL ⟨0,4⟩ 0)[0]? =some ⟨0,4⟩ from rfl),Pm];rfl
 have e2:jm bL ⟨0,4⟩ 2=[⟨0,4⟩,⟨1,1⟩]:=by
  rw [jZ (show (jm bL ⟨0,4⟩ 1)[1]? =some ⟨1,1⟩ by rw [e1];rfl),NB,e1];rfl
 rw [← vh (by decide) (i:=2) (by rw [e2];rfl),e2]
theorem fS:fA bL=[⟨0,1⟩,⟨0,2⟩,⟨0,3⟩,⟨0,4⟩,⟨1,1⟩]:=JT
theorem j_ {st:aB}{d:Dt}{N:List Dt}(hd:d∈fA bL)(hn:jY bL d=N):bw bL st d=Dt.set (N.filter fun e=> !st.bn e):=by
 rw [← xg (by decide) hd,hn]
theorem set_nil:Dt.set []=[]:=(Dt.rH _).symm.trans (by kernel_rfl)
theorem tR (d:Dt):Dt.set [d]=[d]:=by
 refine Dt.jh (Dt.jK _) (List.pairwise_singleton _ _) fun v=>by rw [Dt.mem_set]
theorem Ov:((fA bL).filter fun d=>decide (bw bL (iu 4) d=[]))=[⟨0,1⟩,⟨0,2⟩,⟨0,3⟩]:=by
 have w1:bw bL (iu 4) ⟨0,1⟩=[]:=(j_ (by rw [fS];decide) (j7 (by decide) Oq)).trans (by rw [show List.filter (fun e=> !(iu 4).bn e) [(⟨0,1⟩:Dt)]=[] by decide,set_nil]);have w2:bw bL (iu 4) ⟨0,2⟩=[]:=(j_ (by rw [fS];decide) (j7 (by decide) Ot)).trans (by rw [show List.filter (fun e=> !(iu 4).bn e) [(⟨0,2⟩:Dt)]=[] by decide,set_nil]);have w3:bw bL (iu 4) ⟨0,3⟩=[]:=(j_ (by rw [fS];decide) (j7 (by decide) Ou)).trans (by rw [show List.filter (fun e=> !(iu 4).bn e) [(⟨0,3⟩:Dt)]=[] by decide,set_nil]);have w4:bw bL (iu 4) ⟨0,4⟩=[⟨1,1⟩]:=(j_ (by rw [fS];decide) yg).trans (by rw [show List.filter (fun e=> !(iu 4).bn e) [(⟨0,4⟩:Dt),⟨1,1⟩]=[⟨1,1⟩] by decide,tR]);have w5:bw bL (iu 4) ⟨1,1⟩=[⟨1,1⟩]:=(j_ (by rw [fS];decide) (j7 (by decide) NB)).trans (by rw [show List.filter (fun e=> !(iu 4).bn e) [(⟨1,1⟩:Dt)]=[⟨1,1⟩] by decide,tR]);rw [fS];simp only [List.filter_cons,List.filter_nil,w1,w2,w3,w4,w5,decide_true,if_true];rfl
theorem Nj:((fA bL).filter fun d=>decide (bw bL (jo 4 1) d=[]))=[⟨0,1⟩,⟨0,2⟩,⟨0,3⟩,⟨0,4⟩,⟨1,1⟩]:=by
 have w1:bw bL (jo 4 1) ⟨0,1⟩=[]:=(j_ (by rw [fS];decide) (j7 (by decide) Oq)).trans (by rw [show List.filter (fun e=> !(jo 4 1).bn e) [(⟨0,1⟩:Dt)]=[] by decide,set_nil]);have w2:bw bL (jo 4 1) ⟨0,2⟩=[]:=(j_ (by rw [fS];decide) (j7 (by decide) Ot)).trans (by rw [show List.filter (fun e=> !(jo 4 1).bn e) [(⟨0,2⟩:Dt)]=[] by decide,set_nil]);have w3:bw bL (jo 4 1) ⟨0,3⟩=[]:=(j_ (by rw [fS];decide) (j7 (by decide) Ou)).trans (by rw [show List.filter (fun e=> !(jo 4 1).bn e) [(⟨0,3⟩:Dt)]=[] by decide,set_nil]);have w4:bw bL (jo 4 1) ⟨0,4⟩=[]:=(j_ (by rw [fS];decide) yg).trans (by rw [show List.filter (fun e=> !(jo 4 1).bn e) [(⟨0,4⟩:Dt),⟨1,1⟩]=[] by decide,set_nil]);have w5:bw bL (jo 4 1) ⟨1,1⟩=[]:=(j_ (by rw [fS];decide) (j7 (by decide) NB)).trans (by rw [show List.filter (fun e=> !(jo 4 1).bn e) [(⟨1,1⟩:Dt)]=[] by decide,set_nil]);rw [fS];simp only [List.filter_cons,List.filter_nil,w1,w2,w3,w4,w5,decide_true,if_true]
theorem Nk:((fA bL).filter fun d=>decide (bw bL (jo 3 1) d=[]))=[⟨0,1⟩,⟨0,2⟩,⟨0,3⟩,⟨1,1⟩]:=by
 have w1:bw bL (jo 3 1) ⟨0,1⟩=[]:=(j_ (by rw [fS];decide) (j7 (by decide) Oq)).trans (by rw [show List.filter (fun e=> !(jo 3 1).bn e) [(⟨0,1⟩:Dt)]=[] by decide,set_nil]);have w2:bw bL (jo 3 1) ⟨0,2⟩=[]:=(j_ (by rw [fS];decide) (j7 (by decide) Ot)).trans (by rw [show List.filter (fun e=> !(jo 3 1).bn e) [(⟨0,2⟩:Dt)]=[] by decide,set_nil]);have w3:bw bL (jo 3 1) ⟨0,3⟩=[]:=(j_ (by rw [fS];decide) (j7 (by decide) Ou)).trans (by rw [show List.filter (fun e=> !(jo 3 1).bn e) [(⟨0,3⟩:Dt)]=[] by decide,set_nil]);have w4:bw bL (jo 3 1) ⟨0,4⟩=[⟨0,4⟩]:=(j_ (by rw [fS];decide) yg).trans (by rw [show List.filter (fun e=> !(jo 3 1).bn e) [(⟨0,4⟩:Dt),⟨1,1⟩]=[⟨0,4⟩] by decide,tR]);have w5:bw bL (jo 3 1) ⟨1,1⟩=[]:=(j_ (by rw [fS];decide) (j7 (by decide) NB)).trans (by rw [show List.filter (fun e=> !(jo 3 1).bn e) [(⟨1,1⟩:Dt)]=[] by decide,set_nil]);rw [fS];simp only [List.filter_cons,List.filter_nil,w1,w2,w3,w4,w5,decide_true,if_true];rfl
theorem Nl:eY bL (iu 4) ⟨0,4⟩= .dm [aW [⟨1,1⟩],i64 0]:=by
 have w4:bw bL (iu 4) ⟨0,4⟩=[⟨1,1⟩]:=(j_ (by rw [fS];decide) yg).trans (by rw [show List.filter (fun e=> !(iu 4).bn e) [(⟨0,4⟩:Dt),⟨1,1⟩]=[⟨1,1⟩] by decide,tR]);unfold eY;rw [if_pos (by kernel_rfl),w4]
theorem Nn:eY bL (iu 4) ⟨0,5⟩= .dm [.d .aJ,i64 7]:=by
 unfold eY;rw [if_neg (by rw [show (aS bL ⟨0,5⟩).isSome=false by kernel_rfl];decide)]
end
section
attribute [local irreducible] SW RW aF SC ai aq j6 Ac
set_option maxHeartbeats 4000000 in
theorem GY (l:List ag)(hl:l.length≤80)(hd:oO l)(st:aB):Go.Sl.Pure Tryz.prog final_Verdicts.f [ops l,.agg st.cells] (aW ((fA l).filter fun d=>decide (bw l st d=[]))):=by
 refine final_Verdicts.enter (by first | rfl | simp [SV.ok,SV.ax]) (by first | rfl | simp [Hp.ok,Ob.ok,SV.ok,SV.ax,aB.ak]) (by simp) ?_;dsimp only [final_Verdicts.s,Co.M,Co.J,Co.F,Co.K,Co.Q,Co.x,Co.S];refine SW.seq ?_;refine SW.g0 [0,1,3,4,5] mixed af ?_;refine SW.seq (SW.vC ?_);(repeat (first | refine bu.op af (h:= ?_) | refine bu.dD af (h:= ?_) | refine bu.skip (h:= ?_)));refine bu.aM (GD l hl hd st) (HSub.nil _) (h:= ?_);rintro _ _ ⟨S,h,rfl,rfl⟩;simp only [bS,bZ,b_,fC,fK,cM,lk,List.lookup,Nat.reduceBEq,BEq.rfl,beq_self_eq_true,if_true,if_false,reduceIte,Nat.reduceEqDiff,Bool.false_eq_true,Option.isSome_some,Option.isSome_none,Nat.reduceAdd];(repeat (first | refine bu.op af (h:= ?_) | refine bu.dD af (h:= ?_) | refine bu.skip (h:= ?_)));refine bu.nil ?_;have cV:=GF h hl st;rw [B9 h st];generalize (fA l).filter (oh l st)=R at cV ⊢;refine SW.seq (SW.vC ?_);(repeat (first | refine bu.op af (h:= ?_) | refine bu.dD af (h:= ?_) | refine bu.skip (h:= ?_)));refine bu.aM cV (fun n ob hn=> ?_) (h:= ?_)
 ·show lk (zL S h.X st ⟨[],0⟩++[(0,Ob.box 39 st.cells)]) n=some ob
  rw [jF,hn];rfl
 intro r F hh;obtain ⟨K',h1,h2⟩:=hh;subst h1;subst h2;simp only [bS,bZ,b_,fC,fK,cM,lk,List.lookup,Nat.reduceBEq,BEq.rfl,beq_self_eq_true,if_true,if_false,reduceIte,Nat.reduceEqDiff,Bool.false_eq_true,Option.isSome_some,Option.isSome_none,Nat.reduceAdd];(repeat (first | refine bu.op af (h:= ?_) | refine bu.dD af (h:= ?_) | refine bu.skip (h:= ?_)));refine bu.nil ?_;refine SW.freeze 21 (R.flatMap Dt.ds) rfl rfl ?_;simp only [iZ,SV.iw,List.map_cons,List.map_nil,if_true,if_false,reduceIte,Nat.reduceEqDiff];refine SW.ret ?_;exact End.mk [] (h4:=⟨rfl,rfl⟩)
theorem rV (l:List ag)(hl:l.length≤80)(hd:oO l)(st:aB)(k:Nat):aF Tryz.prog final_Verdicts.f [ops l,.agg st.cells] [] k 0 (aW ((fA l).filter fun d=>decide (bw l st d=[]))) []:=(GY l hl hd st).sc rfl k
set_option maxHeartbeats 4000000 in
theorem GZ (l:List ag)(hl:l.length≤80)(hd:oO l)(st:aB):Go.Sl.Pure Tryz.prog final_Outcomes.f [ops l,.agg st.cells] (aW (rU l ((fA l).filter fun d=>decide (bw l st d=[])) (fA l))):=by
 refine final_Outcomes.enter (by first | rfl | simp [SV.ok,SV.ax]) (by first | rfl | simp [Hp.ok,Ob.ok,SV.ok,SV.ax,aB.ak]) (by simp) ?_;dsimp only [final_Outcomes.s,Co.M,Co.J,Co.F,Co.T,Co.K,Co.P,Co.Q,Co.x,Co.W,Co.D,Co.A,Co.S];refine SW.seq ?_;refine SW.g0 [0,1,3,4,5,6] mixed af ?_;refine SW.seq (SW.vC ?_);(repeat (first | refine bu.op af (h:= ?_) | refine bu.dD af (h:= ?_) | refine bu.skip (h:= ?_)));refine bu.aM (GD l hl hd st) (HSub.nil _) (h:= ?_);rintro _ _ ⟨S,h,rfl,rfl⟩;simp only [bS,bZ,b_,fC,fK,cM,lk,List.lookup,Nat.reduceBEq,BEq.rfl,beq_self_eq_true,if_true,if_false,reduceIte,Nat.reduceEqDiff,Bool.false_eq_true,Option.isSome_some,Option.isSome_none,Nat.reduceAdd];(repeat (first | refine bu.op af (h:= ?_) | refine bu.dD af (h:= ?_) | refine bu.skip (h:= ?_)));refine bu.nil ?_;have cV:=GP h hl (h.short hd) st;rw [Jm h st];have cD:=B7 h hl st ⟨[],0⟩;generalize (fA l).filter (A9 l st)=R at cV ⊢;generalize fA l=D at cV cD;have a0:=Gr st 12 16 17;have al:(0+1≤(s7 st 12 16 17).length)=True:=eq_true (by rw [zI];decide);have s1:cN [SV.d .j0] 0 [SV.ptr 18 0]=[SV.ptr 18 0]:=rfl;have s2:cN [SV.d .aJ] 0 [SV.gs 21 D.length]=[SV.gs 21 D.length]:=rfl;refine SW.seq ?_;refine SW.g1 [0,1,3,4,5,6] mixed (And.intro (a0) (And.intro (al) (And.intro (s1) (s2)))) cD ?_;refine SW.seq (SW.vC ?_);(repeat (first | refine bu.op af (h:= ?_) | refine bu.dD af (h:= ?_) | refine bu.skip (h:= ?_)));refine bu.aM cV (fun n ob hn=> ?_) (h:= ?_)
 ·have:lk (oH S h.X st ⟨[],0⟩ D++[(0,Ob.box 39 st.cells)]) n=some ob:=by rw [jF,hn];rfl
  exact this
 intro r F hh;obtain ⟨K',h1,h2⟩:=hh;subst h1;subst h2;simp only [bS,bZ,b_,fC,fK,cM,lk,List.lookup,Nat.reduceBEq,BEq.rfl,beq_self_eq_true,if_true,if_false,reduceIte,Nat.reduceEqDiff,Bool.false_eq_true,Option.isSome_some,Option.isSome_none,Nat.reduceAdd];(repeat (first | refine bu.op af (h:= ?_) | refine bu.dD af (h:= ?_) | refine bu.skip (h:= ?_)));refine bu.nil ?_;refine SW.freeze 25 (R.flatMap Dt.ds) rfl rfl ?_;simp only [iZ,SV.iw,List.map_cons,List.map_nil,if_true,if_false,reduceIte,Nat.reduceEqDiff];refine SW.ret ?_;exact End.mk [] (h4:=⟨rfl,rfl⟩)
theorem G0 (l:List ag)(hl:l.length≤80)(hd:oO l)(st:aB)(k:Nat):aF Tryz.prog final_Outcomes.f [ops l,.agg st.cells] [] k 0 (aW (rU l ((fA l).filter fun d=>decide (bw l st d=[])) (fA l))) []:=(GZ l hl hd st).sc rfl k
end
section
attribute [local irreducible] SW RW aF SC ai aq j6 Ac
theorem No {P:Program}{env:List (Nat×SV)}{hp:Hp}{k d p q s:Nat}{g:Option (Nat×Bool)}{r:List SI}{K:St→List (Bool×List Nat)→Prop}(a b c:Dt)
  (hg:g=none∨∃ t w,g=some (t,w)∧env.lookup t=some (.d (.bool w))) (ha:env.lookup p=some (.agg a.cells)) (hb:env.lookup q=some (.agg b.cells)) (hc:env.lookup s=some (.agg c.cells))
  (h:RW P r ⟨(d,aW [a,b,c])::env,hp,k⟩ fun st' ts=>K st' ((false,[])::ts)):RW P (⟨some d,.lB 37 2 3 [.d (.int .u8 0),.d (.int .u32 0),.d (.int .u8 0),.d (.int .u32 0),.d (.int .u8 0),.d (.int .u32 0)] [(0,2,.t p),(2,2,.t q),(4,2,.t s)],g⟩::r) ⟨env,hp,k⟩ K:=by
 refine RW.cons (e:=⟨aW [a,b,c],[],[],0,(2=2∧0+2≤6∧2=2∧2+2≤6∧2=2∧4+2≤6∧True)⟩) (fun dL=>⟨.iw::dL,fu hg ?_⟩) (by show (2=2∧0+2≤6∧2=2∧2+2≤6∧2=2∧4+2≤6∧True);decide) ?_
 ·have h1:vn (fun t=>env.lookup t) [(0,2,X.t p),(2,2,X.t q),(4,2,X.t s)]=some [(0,2,.agg a.cells),(2,2,.agg b.cells),(4,2,.agg c.cells)]:=by
   simp only [vn,ev,ha,hb,hc]
  have h2:lU [SV.d (.int .u8 0),SV.d (.int .u32 0),SV.d (.int .u8 0),SV.d (.int .u32 0),SV.d (.int .u8 0),SV.d (.int .u32 0)] [(0,2,.agg a.cells),(2,2,.agg b.cells),(4,2,.agg c.cells)]=some (a.cells++(b.cells++c.cells),(2=2∧0+2≤6∧2=2∧2+2≤6∧2=2∧4+2≤6∧True)):=rfl;have h3:e_ (a.cells++(b.cells++c.cells))=some ([a,b,c].flatMap Dt.ds):=rfl;have h4:(a.cells++(b.cells++c.cells)).all SV.dO=true:=rfl;simp only [ff,dH,h1,h2,h3,h4,if_true,Bool.false_or];rfl
 ·exact h
theorem Np {P:Program}{env:List (Nat×SV)}{hp:Hp}{k d p q s v:Nat}{g:Option (Nat×Bool)}{r:List SI}{K:St→List (Bool×List Nat)→Prop}(a b c e:Dt)
  (hg:g=none∨∃ t w,g=some (t,w)∧env.lookup t=some (.d (.bool w))) (ha:env.lookup p=some (.agg a.cells)) (hb:env.lookup q=some (.agg b.cells)) (hc:env.lookup s=some (.agg c.cells)) (he:env.lookup v=some (.agg e.cells))
  (h:RW P r ⟨(d,aW [a,b,c,e])::env,hp,k⟩ fun st' ts=>K st' ((false,[])::ts)):RW P (⟨some d,.lB 37 2 4 [.d (.int .u8 0),.d (.int .u32 0),.d (.int .u8 0),.d (.int .u32 0),.d (.int .u8 0),.d (.int .u32 0),.d (.int .u8 0),.d (.int .u32 0)] [(0,2,.t p),(2,2,.t q),(4,2,.t s),(6,2,.t v)],g⟩::r) ⟨env,hp,k⟩ K:=by
 refine RW.cons (e:=⟨aW [a,b,c,e],[],[],0,(2=2∧0+2≤8∧2=2∧2+2≤8∧2=2∧4+2≤8∧2=2∧6+2≤8∧True)⟩) (fun dL=>⟨.iw::dL,fu hg ?_⟩) (by show (2=2∧0+2≤8∧2=2∧2+2≤8∧2=2∧4+2≤8∧2=2∧6+2≤8∧True);decide) ?_
 ·have h1:vn (fun t=>env.lookup t) [(0,2,X.t p),(2,2,X.t q),(4,2,X.t s),(6,2,X.t v)]=some [(0,2,.agg a.cells),(2,2,.agg b.cells),(4,2,.agg c.cells),(6,2,.agg e.cells)]:=by
   simp only [vn,ev,ha,hb,hc,he]
  have h2:lU [SV.d (.int .u8 0),SV.d (.int .u32 0),SV.d (.int .u8 0),SV.d (.int .u32 0),SV.d (.int .u8 0),SV.d (.int .u32 0),SV.d (.int .u8 0),SV.d (.int .u32 0)] [(0,2,.agg a.cells),(2,2,.agg b.cells),(4,2,.agg c.cells),(6,2,.agg e.cells)]=some (a.cells++(b.cells++(c.cells++e.cells)),(2=2∧0+2≤8∧2=2∧2+2≤8∧2=2∧4+2≤8∧2=2∧6+2≤8∧True)):=rfl;have h3:e_ (a.cells++(b.cells++(c.cells++e.cells)))=some ([a,b,c,e].flatMap Dt.ds):=rfl;have h4:(a.cells++(b.cells++(c.cells++e.cells))).all SV.dO=true:=rfl;simp only [ff,dH,h1,h2,h3,h4,if_true,Bool.false_or];rfl
 ·exact h
set_option maxRecDepth 100000 in
set_option maxHeartbeats 4000000 in
theorem Dw:Go.Sl.Pure Tryz.prog law20_row.f [] (ops [q1,q2,q3,q4,q5]):=by
 refine law20_row.enter (by first | rfl | simp [SV.ok,SV.ax]) (by first | rfl | simp [Hp.ok,Ob.ok,SV.ok,SV.ax,aB.ak]) (by simp) ?_;dsimp only [law20_row.s,Co.M,Co.J,Co.F,Co.b8,Co.av,Co.bC,Co.z8,Co.bF,Co.K,Co.W,Co.S];refine SW.seq ?_;refine SW.g0 [0,1] mixed af ?_;refine SW.seq ?_;refine SW.g0 [0,1] mixed af ?_;refine SW.seq ?_
 (refine SW.bT [0,1] mixed ?_;(repeat (first | refine RW.Gh q1.cells rfl rfl (by decide) (h:= ?_) | refine RW.Gh q2.cells rfl rfl (by decide) (h:= ?_) | refine RW.Gh q3.cells rfl rfl (by decide) (h:= ?_) | refine RW.Gh q4.cells rfl rfl (by decide) (h:= ?_) | refine RW.Gh q5.cells rfl rfl (by decide) (h:= ?_) | refine N_ q1 q2 q3 q4 q5 rfl rfl rfl rfl rfl rfl (h:= ?_) | refine RW.ro af (h:= ?_) | refine RW.skip (h:= ?_) | refine RW.op af (h:= ?_) | refine RW.dD af (h:= ?_) | refine RW.aY (h:= ?_)));refine RW.nil ⟨by kernel_rfl,aq.mk (h:= ?_)⟩)
 refine SW.ret ?_;exact End.mk [] (h4:=⟨rfl,rfl⟩)
theorem Dx (k:Nat):aF Tryz.prog law20_row.f [] [] k 0 (ops bL) []:=by
 have h0:aF Tryz.prog law20_row.f [] [] k 0 (ops [q1,q2,q3,q4,q5]) []:=Dw.sc rfl k;refine SC.MQ h0 fun p μ M u hu=> ?_
 rw [Rp.cU] at hu ⊢;have:=bX.OE hu;rw [← Et] at this;exact this
theorem oZ:oO bL:=Gj
theorem Pn (k:Nat):aF Tryz.prog final_Verdicts.f [ops bL,.agg (iu 4).cells] [] k 0 (aW [⟨0,1⟩,⟨0,2⟩,⟨0,3⟩]) []:=by
 have:=rV bL (by decide) oZ (iu 4) k
 rwa [Ov] at this
theorem Ow (k:Nat):aF Tryz.prog final_Verdicts.f [ops bL,.agg (jo 4 1).cells] [] k 0 (aW [⟨0,1⟩,⟨0,2⟩,⟨0,3⟩,⟨0,4⟩,⟨1,1⟩]) []:=by
 have:=rV bL (by decide) oZ (jo 4 1) k
 rwa [Nj] at this
theorem Ox (k:Nat):aF Tryz.prog final_Verdicts.f [ops bL,.agg (jo 3 1).cells] [] k 0 (aW [⟨0,1⟩,⟨0,2⟩,⟨0,3⟩,⟨1,1⟩]) []:=by
 have:=rV bL (by decide) oZ (jo 3 1) k
 rwa [Nk] at this
theorem Oy (k:Nat):aF Tryz.prog final_Waits.f [ops bL,.agg (iu 4).cells,.agg (Dt.mk 0 4).cells] [] k 0 (.dm [aW [⟨1,1⟩],.d (.int .i64 0)]) []:=by
 have:=qz bL (by decide) oZ (iu 4) ⟨0,4⟩ k
 rwa [Nl] at this
theorem Oz (k:Nat):aF Tryz.prog final_Waits.f [ops bL,.agg (iu 4).cells,.agg (Dt.mk 0 5).cells] [] k 0 (.dm [.d .aJ,.d (.int .i64 7)]) []:=by
 have:=qz bL (by decide) oZ (iu 4) ⟨0,5⟩ k
 rwa [Nn] at this
theorem v4:cN aB.zero.cells 0 [.d (.int .u32 4)]=(iu 4).cells:=rfl
theorem v3:cN aB.zero.cells 0 [.d (.int .u32 3)]=(iu 3).cells:=rfl
theorem v41:cN (iu 4).cells 1 [.d (.int .u32 1)]=(jo 4 1).cells:=rfl
theorem v31:cN (iu 3).cells 1 [.d (.int .u32 1)]=(jo 3 1).cells:=rfl
theorem e5:cN (Dt.mk 0 0).cells 1 [.d (.int .u32 5)]=(Dt.mk 0 5).cells:=rfl
theorem Po:cN (Dt.mk 0 0).cells 1 [.d (.int .u32 1)]=(Dt.mk 0 1).cells:=rfl
theorem Pp:cN (Dt.mk 0 0).cells 1 [.d (.int .u32 2)]=(Dt.mk 0 2).cells:=rfl
theorem OA:cN (cN (Dt.mk 0 0).cells 0 [.d (.int .u8 1)]) 1 [.d (.int .u32 1)]=(Dt.mk 1 1).cells:=rfl
theorem l5:((([⟨0,1⟩,⟨0,2⟩,⟨0,3⟩,⟨0,4⟩,⟨1,1⟩]:List Dt).length:Int) == 5)=true:=rfl
theorem Pq (k:Nat):aF Tryz.prog ref03_Same.f [aW [⟨0,1⟩,⟨0,2⟩,⟨0,3⟩],aW [⟨0,1⟩,⟨0,2⟩,⟨0,3⟩]] [] k 0 (.d (.bool true)) []:=tI [⟨0,1⟩,⟨0,2⟩,⟨0,3⟩] [⟨0,1⟩,⟨0,2⟩,⟨0,3⟩] (by decide) (by decide) k
theorem Pr (k:Nat):aF Tryz.prog ref03_Same.f [aW [⟨0,1⟩,⟨0,2⟩,⟨0,3⟩,⟨1,1⟩],aW [⟨0,1⟩,⟨0,2⟩,⟨0,3⟩,⟨1,1⟩]] [] k 0 (.d (.bool true)) []:=tI [⟨0,1⟩,⟨0,2⟩,⟨0,3⟩,⟨1,1⟩] [⟨0,1⟩,⟨0,2⟩,⟨0,3⟩,⟨1,1⟩] (by decide) (by decide) k
theorem Pt (k:Nat):aF Tryz.prog ref03_Same.f [aW [⟨1,1⟩],.d (.sl 1 (Dt.mk 1 1).ds)] [] k 0 (.d (.bool true)) []:=tI [⟨1,1⟩] [⟨1,1⟩] (by decide) (by decide) k
set_option maxHeartbeats 16000000 in
theorem Dy:Go.Sl.Pure Tryz.prog law20_head.f [] (bl true):=by
 refine law20_head.enter (by first | rfl | simp [SV.ok,SV.ax]) (by first | rfl | simp [Hp.ok,Ob.ok,SV.ok,SV.ax,aB.ak]) (by simp) ?_;dsimp only [law20_head.s,Co.M,Co.G,Co.J,Co.H,Co.F,Co.C,Co.Z,Co.B,Co.b8,Co.av,Co.z8,Co.E,Co.Q,Co.R,Co.U,Co.S];refine SW.seq ?_;refine SW.g0 [0,1,2,3,4,5,6,8] mixed af ?_;refine SW.seq ?_;refine SW.g1 [0,1,2,3,4,5,6,8] mixed af Dx ?_;refine SW.seq ?_;refine SW.g4 [0,1,2,3,4,5,6,8] mixed (And.intro (v4) (And.intro (v3) (And.intro (v41) (v31)))) Pn Ow Ox trivial ?_;refine SW.seq ?_;refine SW.g1 [0,1,2,3,4,5,6,8] mixed (And.intro (v4) (d4)) Oy ?_;refine SW.seq ?_;refine SW.g1 [0,1,2,3,4,5,6,8] mixed (And.intro (v4) (e5)) Oz ?_;refine SW.seq ?_
 (have fx:=(And.intro (Po) (And.intro (Pp) (And.intro (d3) (And.intro (OA) (l5)))));refine SW.bT [0,1,2,3,4,5,6,8] mixed ?_;(repeat (first | refine No (Dt.mk 0 1) (Dt.mk 0 2) (Dt.mk 0 3) (.inl rfl) rfl rfl rfl (h:= ?_) | refine Np (Dt.mk 0 1) (Dt.mk 0 2) (Dt.mk 0 3) (Dt.mk 1 1) (.inr (Exists.intro _ (Exists.intro _ (And.intro rfl rfl)))) rfl rfl rfl rfl (h:= ?_) | refine RW.ro fx (h:= ?_) | refine RW.skip (h:= ?_) | refine RW.op fx (h:= ?_) | refine RW.dD fx (h:= ?_) | refine RW.aY (h:= ?_) | (refine RW.aM (h:= ?_);(first | refine ai.mk fx (hc:=Pq _) (h:= ?_) | refine ai.mk fx (hc:=Pr _) (h:= ?_) | refine ai.mk fx (hc:=Pt _) (h:= ?_)))));refine RW.nil ⟨by kernel_rfl,aq.mk (h:= ?_)⟩)
 refine SW.ret ?_;exact End.mk [] (h4:=⟨rfl,rfl⟩)
theorem mL (k:Nat):aF Tryz.prog law20_head.f [] [] k 0 (.d (.bool true)) []:=Dy.sc rfl k
end
section
attribute [local irreducible] SW RW aF SC ai aq j6 Ac
theorem Dz (l:List ag)(st:aB)(d:Dt):(bw l st d).length≤l.length:=Nat.le_trans (List.length_filter_le _ _) (rT l)
theorem DA {l:List ag}(hl:l.length≤80)(st:aB)(d:Dt):∃ (V:DV) (e:Int),eY l st d= .dm [.d V,.d (.int .i64 e)]∧∀ k,aF Tryz.prog ref03_Same.f [.d V,.d V] [] k 0 (bl true) []:=by
 unfold eY
 split
 ·exact ⟨_,_,rfl,rP _ (by have:=Dz l st d;omega)⟩
 ·exact ⟨_,_,rfl,De⟩
theorem DB (l:List ag)(V D:List Dt):(rU l V D).length≤V.length:=List.length_filter_le _ _
set_option maxHeartbeats 16000000 in
theorem zX (l:List ag)(st:aB)(d:Dt)(hd:∀ o,o∈l→o.aP<256∧o.kind<256∧o.mN∧o.dot.wf∧o.cl.length≤140737488351232)(hlen:l.length≤9223372036854775807):
  SB Tryz.prog law20_FinalTells.f [ops l,.agg st.cells,.agg d.cells] [] 0 0 (fun r F=>r=bl true):=by
 refine law20_FinalTells.enter (by first | rfl | simp [SV.ok,SV.ax]) (by first | rfl | simp [Hp.ok,Ob.ok,SV.ok,SV.ax,aB.ak]) (by simp) ?_;dsimp only [law20_FinalTells.s,Co.M,Co.G,Co.J,Co.H,Co.F,Co.C,Co.Z,Co.B,Co.K,Co.E,Co.P,Co.Q,Co.R,Co.x,Co.U,Co.S];have hG':=EC l (fun o ho=>⟨_,_,(hd o ho).2.2.1.eq,(hd o ho).2.2.1.le⟩) hlen;refine SW.seq ?_;refine SW.g0 [0,1,2,4,5,6,7,8,9,10,17] mixed af ?_;refine SW.seq (SW.seq ?_);rcases hG:jG l with _ | _
 rotate_left
 ·rw [hG] at hG'
  refine SW.g2 [0,1,2,4,5,6,7,8,9,10,17] mixed af hG' mL ?_;refine SW.aj rfl (SW.seq ?_);refine SW.g2 [0,1,2,4,5,6,7,8,9,10,17] mixed af hG' mL ?_;refine SW.ret ?_;exact End.mk [] (h4:=rfl)
 rw [hG] at hG';have hl80:=wD hG;have hd':=zA hG (fun o ho=>⟨(hd o ho).2.2.1,(hd o ho).2.2.2.2⟩);have hd3:∀ o,o∈l→o.aP<256∧o.mN∧o.dot.wf:=fun o ho=>⟨(hd o ho).1,(hd o ho).2.2.1,(hd o ho).2.2.2.1⟩
 have hrow:oO l:=fun o ho=>⟨(hd o ho).2.1,(hd o ho).2.2.1,hd' o ho⟩
 rcases h50:decide ((l.length:Int)>50) with _ | _
 rotate_left
 ·skip
  refine SW.g2 [0,1,2,4,5,6,7,8,9,10,17] mixed (h50) hG' mL ?_;refine SW.aj rfl (SW.seq ?_);refine SW.g2 [0,1,2,4,5,6,7,8,9,10,17] mixed af hG' mL ?_;refine SW.ret ?_;exact End.mk [] (h4:=rfl)
 refine SW.g1 [0,1,2,4,5,6,7,8,9,10,17] mixed (h50) hG' ?_;refine SW.ah rfl (SW.skip ?_);have c1:=qz l hl80 hrow st d;have c2:=s9 hl80 hd3 st d;obtain ⟨V,e,hV,cS⟩:=DA hl80 st d;rw [hV] at c1 c2;have c3:=rV l hl80 hrow st;have c4:=oU hl80 hd3 st;have c5:=G0 l hl80 hrow st;have c6:=vl hl80 hd3 st;have hA:((fA l).filter fun d=>decide (bw l st d=[])).length≤80:=Nat.le_trans (List.length_filter_le _ _) (Nat.le_trans (rT l) hl80);have hB:=DB l ((fA l).filter fun d=>decide (bw l st d=[])) (fA l);generalize rU l ((fA l).filter fun d=>decide (bw l st d=[])) (fA l)=B at c5 c6 hB;generalize ((fA l).filter fun d=>decide (bw l st d=[]))=A at c3 c4 hA hB;have cA:=rP A (by omega);have cB:=rP B (by omega);have fe:(e == e)=true:=by simp
 refine SW.seq ?_;refine SW.g1 [0,1,2,4,5,6,7,8,9,10,17] mixed af c1 ?_;refine SW.seq ?_;refine SW.g1 [0,1,2,4,5,6,7,8,9,10,17] mixed af c2 ?_;refine SW.seq ?_;have cz:=And.intro c3 (And.intro c4 (And.intro c5 (And.intro c6 (And.intro cA (And.intro cB (And.intro cS (And.intro mL True.intro)))))));refine SW.gM [0,1,2,4,5,6,7,8,9,10,17] mixed (fe) cz ?_;refine SW.ret ?_;exact End.mk [] (h4:=rfl)
end
end Go.Proofs.YtaelhkkjgfobhaaGreat
