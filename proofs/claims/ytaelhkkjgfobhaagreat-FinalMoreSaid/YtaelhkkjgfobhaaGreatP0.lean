/-
 Final: the head's row, what is said of it (plain).
-/
import Derived.Test.YtaelhkkjgfobhaaGreatP9
import Derived.Test.YtaelhkkjgfobhaaGreatPS
import Derived.Test.YtaelhkkjgfobhaaGreatP6
import Derived.Test.YtaelhkkjgfobhaaGreatPX
set_option linter.unusedSectionVars false
set_option linter.unusedVariables false
set_option linter.unusedSimpArgs false
namespace Go.Proofs.YtaelhkkjgfobhaaGreat
open Go.Sl Go.Proofs
section
def iy (a b:Nat):av:=⟨a,b,0,0,0,0,0,0⟩
theorem MK:tQ bA ⟨0,1⟩=p1:=ic (by kernel_rfl)
theorem ML:tQ bA ⟨0,2⟩=p2:=ic (by kernel_rfl)
theorem MN:tQ bA ⟨0,3⟩=p3:=ic (by kernel_rfl)
theorem MO:tQ bA ⟨0,4⟩=p4:=ic (by kernel_rfl)
theorem MP:tQ bA ⟨1,1⟩=p5:=ic (by kernel_rfl)
theorem nu {l:List ag}{d:Dt}{o:ag}(h:bB l d=some o)(hw:oF l o=0):gU l d=true:=by
 unfold gU;rw [h];simp [hw]
theorem MQ:gU bA ⟨0,1⟩=true:=nu (o:=p1) (by kernel_rfl) K_
theorem MR:gU bA ⟨0,2⟩=true:=nu (o:=p2) (by kernel_rfl) La
theorem MS:gU bA ⟨0,3⟩=true:=nu (o:=p3) (by kernel_rfl) Lb
theorem MT:gU bA ⟨0,4⟩=true:=nu (o:=p4) (by kernel_rfl) Lc
theorem MU:gU bA ⟨1,1⟩=true:=nu (o:=p5) (by kernel_rfl) Ld
theorem Fj:tC bA=[⟨0,1⟩,⟨0,2⟩,⟨0,3⟩,⟨0,4⟩,⟨1,1⟩]:=by
 have e:AG bA=bA.map (·.dot):=by
  unfold AG;rw [List.filter_eq_self.2];intro o ho;simp only [bA,List.mem_cons,List.not_mem_nil,or_false] at ho;rcases ho with rfl | rfl | rfl | rfl | rfl
  ·exact MQ
  ·exact MR
  ·exact MS
  ·exact MT
  ·exact MU
 unfold tC;rw [e];exact HY
theorem JI:j_ bA p1=[]:=by unfold j_;rw [if_pos (by decide)]
theorem JJ:j_ bA p2=[⟨0,1⟩]:=by unfold j_;rw [if_neg (by decide)];exact congrArg (List.map (·.dot)) (ia HW)
theorem JK:j_ bA p3=[⟨0,2⟩,⟨0,1⟩]:=by unfold j_;rw [if_neg (by decide)];exact congrArg (List.map (·.dot)) (ia EJ)
theorem JL:j_ bA p4=[⟨0,2⟩,⟨0,1⟩]:=by unfold j_;rw [if_neg (by decide)];exact congrArg (List.map (·.dot)) (ia EJ)
theorem JM:j_ bA p5=[⟨0,1⟩]:=by unfold j_;rw [if_neg (by decide)];exact congrArg (List.map (·.dot)) (ia HW)
theorem nv {d:Dt}{o:ag}{C:List Dt}(hg:gU bA d=true)(ho:tQ bA d=o)(hc:j_ bA o=C):eB bA d=if decide ((⟨0,2⟩:Dt)∈C) && !o.before p5 then [⟨1,1⟩] else []:=by
 have k1:decide (p1.kind=2)=false:=rfl;have k2:decide (p2.kind=2)=false:=rfl;have k3:decide (p3.kind=2)=false:=rfl;have k4:decide (p4.kind=2)=false:=rfl;have k5:decide (p5.kind=2)=true:=rfl;have a5:p5.at_=⟨0,2⟩:=rfl;unfold eB;rw [if_pos hg,Fj];simp only [List.filter_cons,List.filter_nil,G6,Jx,MK,ML,MN,MO,MP,ho,hc,k1,k2,k3,k4,k5,a5,Bool.false_and,Bool.true_and,if_false,Bool.false_eq_true]
theorem Mo:eB bA ⟨0,1⟩=[]:=(nv MQ MK JI).trans (by decide)
theorem Mp:eB bA ⟨0,2⟩=[]:=(nv MR ML JJ).trans (by decide)
theorem Mq:eB bA ⟨0,3⟩=[]:=(nv MS MN JK).trans (by decide)
theorem Nh:eB bA ⟨0,4⟩=[⟨1,1⟩]:=(nv MT MO JL).trans (by decide)
theorem LJ:eB bA ⟨1,1⟩=[]:=(nv MU MP JM).trans (by decide)
theorem jy {l:List ag}(hl:l.length≤80){d:Dt}(h:eB l d=[]):oO l d=[d]:=by
 have e:lS l d 1=[d]:=by
  rw [j6 (show (lS l d 0)[0]? =some d from rfl),h];rfl
 rw [← yD hl (i:=1) (by rw [e];rfl),e]
theorem wI:oO bA ⟨0,4⟩=[⟨0,4⟩,⟨1,1⟩]:=by
 have e1:lS bA ⟨0,4⟩ 1=[⟨0,4⟩,⟨1,1⟩]:=by
  rw [j6 (show (lS bA ⟨0,4⟩ 0)[0]? =some ⟨0,4⟩ from rfl),Nh];rfl
 have e2:lS bA ⟨0,4⟩ 2=[⟨0,4⟩,⟨1,1⟩]:=by
  rw [j6 (show (lS bA ⟨0,4⟩ 1)[1]? =some ⟨1,1⟩ by rw [e1];rfl),LJ,e1];rfl
 rw [← yD (by decide) (i:=2) (by rw [e2];rfl),e2]
theorem eX:fJ bA=[⟨0,1⟩,⟨0,2⟩,⟨0,3⟩,⟨0,4⟩,⟨1,1⟩]:=HY
theorem jB {st:av}{d:Dt}{N:List Dt}(hd:d∈fJ bA)(hn:oO bA d=N):cA bA st d=Dt.set (N.filter fun e=> !st.aU e):=by
 rw [← B0 (by decide) hd,hn]
theorem set_nil:Dt.set []=[]:=(Dt.Az _).symm.trans (by kernel_rfl)
theorem sx (d:Dt):Dt.set [d]=[d]:=by
 refine Dt.ij (Dt.i_ _) (List.pairwise_singleton _ _) fun v=>by rw [Dt.mem_set]
theorem Mr:((fJ bA).filter fun d=>decide (cA bA (gB 4) d=[]))=[⟨0,1⟩,⟨0,2⟩,⟨0,3⟩]:=by
 have w1:cA bA (gB 4) ⟨0,1⟩=[]:=(jB (by rw [eX];decide) (jy (by decide) Mo)).trans (by rw [show List.filter (fun e=> !(gB 4).aU e) [(⟨0,1⟩:Dt)]=[] by decide,set_nil])
 have w2:cA bA (gB 4) ⟨0,2⟩=[]:=(jB (by rw [eX];decide) (jy (by decide) Mp)).trans (by rw [show List.filter (fun e=> !(gB 4).aU e) [(⟨0,2⟩:Dt)]=[] by decide,set_nil])
 have w3:cA bA (gB 4) ⟨0,3⟩=[]:=(jB (by rw [eX];decide) (jy (by decide) Mq)).trans (by rw [show List.filter (fun e=> !(gB 4).aU e) [(⟨0,3⟩:Dt)]=[] by decide,set_nil])
 have w4:cA bA (gB 4) ⟨0,4⟩=[⟨1,1⟩]:=(jB (by rw [eX];decide) wI).trans (by rw [show List.filter (fun e=> !(gB 4).aU e) [(⟨0,4⟩:Dt),⟨1,1⟩]=[⟨1,1⟩] by decide,sx])
 have w5:cA bA (gB 4) ⟨1,1⟩=[⟨1,1⟩]:=(jB (by rw [eX];decide) (jy (by decide) LJ)).trans (by rw [show List.filter (fun e=> !(gB 4).aU e) [(⟨1,1⟩:Dt)]=[⟨1,1⟩] by decide,sx])
 rw [eX];simp only [List.filter_cons,List.filter_nil,w1,w2,w3,w4,w5,decide_true,if_true];rfl
theorem Lq:((fJ bA).filter fun d=>decide (cA bA (iy 4 1) d=[]))=[⟨0,1⟩,⟨0,2⟩,⟨0,3⟩,⟨0,4⟩,⟨1,1⟩]:=by
 have w1:cA bA (iy 4 1) ⟨0,1⟩=[]:=(jB (by rw [eX];decide) (jy (by decide) Mo)).trans (by rw [show List.filter (fun e=> !(iy 4 1).aU e) [(⟨0,1⟩:Dt)]=[] by decide,set_nil])
 have w2:cA bA (iy 4 1) ⟨0,2⟩=[]:=(jB (by rw [eX];decide) (jy (by decide) Mp)).trans (by rw [show List.filter (fun e=> !(iy 4 1).aU e) [(⟨0,2⟩:Dt)]=[] by decide,set_nil])
 have w3:cA bA (iy 4 1) ⟨0,3⟩=[]:=(jB (by rw [eX];decide) (jy (by decide) Mq)).trans (by rw [show List.filter (fun e=> !(iy 4 1).aU e) [(⟨0,3⟩:Dt)]=[] by decide,set_nil])
 have w4:cA bA (iy 4 1) ⟨0,4⟩=[]:=(jB (by rw [eX];decide) wI).trans (by rw [show List.filter (fun e=> !(iy 4 1).aU e) [(⟨0,4⟩:Dt),⟨1,1⟩]=[] by decide,set_nil])
 have w5:cA bA (iy 4 1) ⟨1,1⟩=[]:=(jB (by rw [eX];decide) (jy (by decide) LJ)).trans (by rw [show List.filter (fun e=> !(iy 4 1).aU e) [(⟨1,1⟩:Dt)]=[] by decide,set_nil])
 rw [eX];simp only [List.filter_cons,List.filter_nil,w1,w2,w3,w4,w5,decide_true,if_true]
theorem Lr:((fJ bA).filter fun d=>decide (cA bA (iy 3 1) d=[]))=[⟨0,1⟩,⟨0,2⟩,⟨0,3⟩,⟨1,1⟩]:=by
 have w1:cA bA (iy 3 1) ⟨0,1⟩=[]:=(jB (by rw [eX];decide) (jy (by decide) Mo)).trans (by rw [show List.filter (fun e=> !(iy 3 1).aU e) [(⟨0,1⟩:Dt)]=[] by decide,set_nil])
 have w2:cA bA (iy 3 1) ⟨0,2⟩=[]:=(jB (by rw [eX];decide) (jy (by decide) Mp)).trans (by rw [show List.filter (fun e=> !(iy 3 1).aU e) [(⟨0,2⟩:Dt)]=[] by decide,set_nil])
 have w3:cA bA (iy 3 1) ⟨0,3⟩=[]:=(jB (by rw [eX];decide) (jy (by decide) Mq)).trans (by rw [show List.filter (fun e=> !(iy 3 1).aU e) [(⟨0,3⟩:Dt)]=[] by decide,set_nil])
 have w4:cA bA (iy 3 1) ⟨0,4⟩=[⟨0,4⟩]:=(jB (by rw [eX];decide) wI).trans (by rw [show List.filter (fun e=> !(iy 3 1).aU e) [(⟨0,4⟩:Dt),⟨1,1⟩]=[⟨0,4⟩] by decide,sx])
 have w5:cA bA (iy 3 1) ⟨1,1⟩=[]:=(jB (by rw [eX];decide) (jy (by decide) LJ)).trans (by rw [show List.filter (fun e=> !(iy 3 1).aU e) [(⟨1,1⟩:Dt)]=[] by decide,set_nil])
 rw [eX];simp only [List.filter_cons,List.filter_nil,w1,w2,w3,w4,w5,decide_true,if_true];rfl
theorem Ls:jx bA (gB 4) ⟨0,4⟩= .dU [aY [⟨1,1⟩],i64 0]:=by
 have w4:cA bA (gB 4) ⟨0,4⟩=[⟨1,1⟩]:=(jB (by rw [eX];decide) wI).trans (by rw [show List.filter (fun e=> !(gB 4).aU e) [(⟨0,4⟩:Dt),⟨1,1⟩]=[⟨1,1⟩] by decide,sx])
 unfold jx;rw [if_pos (by kernel_rfl),w4]
theorem Lt:jx bA (gB 4) ⟨0,5⟩= .dU [.d .aP,i64 7]:=by
 unfold jx;rw [if_neg (by rw [show (bB bA ⟨0,5⟩).isSome=false by kernel_rfl];decide)]
end
section
attribute [local irreducible] SW RW aF SC aj ak jl wN
set_option maxHeartbeats 4000000 in
theorem Fk (l:List ag)(hl:l.length≤80)(hd:mM l)(st:av):Go.Sl.Pure Tryz.prog final_Verdicts.f [ops l,.agg st.cells] (aY ((fJ l).filter fun d=>decide (cA l st d=[]))):=by
 refine final_Verdicts.enter (by first | rfl | simp [SV.ok,SV.aA]) (by first | rfl | simp [Hp.ok,Ob.ok,SV.ok,SV.aA,av.an]) (by simp) ?_
 dsimp only [final_Verdicts.s,Co.M,Co.G,Co.J,Co.H,Co.N,Co.F,Co.C,Co.Z,Co.B,Co.b8,Co.ay,Co.bU,Co.i6,Co.z8,Co.cq];refine SW.seq ?_;refine SW.g0 [0,1,3,4,5] mixed af ?_;refine SW.seq (SW.tX ?_)
 (repeat (first | refine aW.op af (h:= ?_) | refine aW.d_ af (h:= ?_) | refine aW.skip (h:= ?_)))
 refine aW.bu (E4 l hl hd st) (HSub.nil _) (h:= ?_);rintro _ _ ⟨S,h,rfl,rfl⟩;simp only [bM,bS,bT,e_,eZ,dh,lk,List.lookup,Nat.reduceBEq,BEq.rfl,beq_self_eq_true,if_true,if_false,reduceIte,Nat.reduceEqDiff,Bool.false_eq_true,Option.isSome_some,Option.isSome_none,Nat.reduceAdd]
 (repeat (first | refine aW.op af (h:= ?_) | refine aW.d_ af (h:= ?_) | refine aW.skip (h:= ?_)))
 refine aW.nil ?_;have cV:=E5 h hl st;rw [AT h st];generalize (fJ l).filter (mQ l st)=R at cV ⊢;refine SW.seq (SW.tX ?_)
 (repeat (first | refine aW.op af (h:= ?_) | refine aW.d_ af (h:= ?_) | refine aW.skip (h:= ?_)))
 refine aW.bu cV (fun n ob hn=> ?_) (h:= ?_)
 ·show lk (yu S h.X st ⟨[],0⟩++[(0,Ob.box 39 st.cells)]) n=some ob
  rw [iU,hn];rfl
 intro r F hh;obtain ⟨K',h1,h2⟩:=hh;subst h1;subst h2;simp only [bM,bS,bT,e_,eZ,dh,lk,List.lookup,Nat.reduceBEq,BEq.rfl,beq_self_eq_true,if_true,if_false,reduceIte,Nat.reduceEqDiff,Bool.false_eq_true,Option.isSome_some,Option.isSome_none,Nat.reduceAdd]
 (repeat (first | refine aW.op af (h:= ?_) | refine aW.d_ af (h:= ?_) | refine aW.skip (h:= ?_)))
 refine aW.nil ?_;refine SW.freeze 21 (R.flatMap Dt.ds) rfl rfl ?_;simp only [kZ,SV.jq,List.map_cons,List.map_nil,if_true,if_false,reduceIte,Nat.reduceEqDiff];refine SW.ret ?_;exact End.mk [] (h4:=⟨rfl,rfl⟩)
theorem lQ (l:List ag)(hl:l.length≤80)(hd:mM l)(st:av)(k:Nat):aF Tryz.prog final_Verdicts.f [ops l,.agg st.cells] [] k 0 (aY ((fJ l).filter fun d=>decide (cA l st d=[]))) []:=(Fk l hl hd st).sc rfl k
set_option maxHeartbeats 4000000 in
theorem Fl (l:List ag)(hl:l.length≤80)(hd:mM l)(st:av):Go.Sl.Pure Tryz.prog final_Outcomes.f [ops l,.agg st.cells] (aY (kD l ((fJ l).filter fun d=>decide (cA l st d=[])) (fJ l))):=by
 refine final_Outcomes.enter (by first | rfl | simp [SV.ok,SV.aA]) (by first | rfl | simp [Hp.ok,Ob.ok,SV.ok,SV.aA,av.an]) (by simp) ?_
 dsimp only [final_Outcomes.s,Co.M,Co.G,Co.J,Co.H,Co.N,Co.F,Co.C,Co.Z,Co.B,Co.b8,Co.ay,Co.bU,Co.i6,Co.z8,Co.cq];refine SW.seq ?_;refine SW.g0 [0,1,3,4,5,6] mixed af ?_;refine SW.seq (SW.tX ?_)
 (repeat (first | refine aW.op af (h:= ?_) | refine aW.d_ af (h:= ?_) | refine aW.skip (h:= ?_)))
 refine aW.bu (E4 l hl hd st) (HSub.nil _) (h:= ?_);rintro _ _ ⟨S,h,rfl,rfl⟩;simp only [bM,bS,bT,e_,eZ,dh,lk,List.lookup,Nat.reduceBEq,BEq.rfl,beq_self_eq_true,if_true,if_false,reduceIte,Nat.reduceEqDiff,Bool.false_eq_true,Option.isSome_some,Option.isSome_none,Nat.reduceAdd]
 (repeat (first | refine aW.op af (h:= ?_) | refine aW.d_ af (h:= ?_) | refine aW.skip (h:= ?_)))
 refine aW.nil ?_;have cV:=Ff h hl (h.short hd) st;rw [Ht h st];have cD:=AO h hl st ⟨[],0⟩;generalize (fJ l).filter (zD l st)=R at cV ⊢;generalize fJ l=D at cV cD;have a0:=ER st 12 16 17;have al:(0+1≤(rM st 12 16 17).length)=True:=eq_true (by rw [yp];decide)
 have s1:bW [SV.d .jr] 0 [SV.ptr 18 0]=[SV.ptr 18 0]:=rfl;have s2:bW [SV.d .aP] 0 [SV.gs 21 D.length]=[SV.gs 21 D.length]:=rfl;refine SW.seq ?_;refine SW.g1 [0,1,3,4,5,6] mixed (And.intro (a0) (And.intro (al) (And.intro (s1) (s2)))) cD ?_;refine SW.seq (SW.tX ?_)
 (repeat (first | refine aW.op af (h:= ?_) | refine aW.d_ af (h:= ?_) | refine aW.skip (h:= ?_)))
 refine aW.bu cV (fun n ob hn=> ?_) (h:= ?_)
 ·have:lk (oH S h.X st ⟨[],0⟩ D++[(0,Ob.box 39 st.cells)]) n=some ob:=by rw [iU,hn];rfl
  exact this
 intro r F hh;obtain ⟨K',h1,h2⟩:=hh;subst h1;subst h2;simp only [bM,bS,bT,e_,eZ,dh,lk,List.lookup,Nat.reduceBEq,BEq.rfl,beq_self_eq_true,if_true,if_false,reduceIte,Nat.reduceEqDiff,Bool.false_eq_true,Option.isSome_some,Option.isSome_none,Nat.reduceAdd]
 (repeat (first | refine aW.op af (h:= ?_) | refine aW.d_ af (h:= ?_) | refine aW.skip (h:= ?_)))
 refine aW.nil ?_;refine SW.freeze 25 (R.flatMap Dt.ds) rfl rfl ?_;simp only [kZ,SV.jq,List.map_cons,List.map_nil,if_true,if_false,reduceIte,Nat.reduceEqDiff];refine SW.ret ?_;exact End.mk [] (h4:=⟨rfl,rfl⟩)
theorem yE (l:List ag)(hl:l.length≤80)(hd:mM l)(st:av)(k:Nat):aF Tryz.prog final_Outcomes.f [ops l,.agg st.cells] [] k 0 (aY (kD l ((fJ l).filter fun d=>decide (cA l st d=[])) (fJ l))) []:=(Fl l hl hd st).sc rfl k
end
section
attribute [local irreducible] SW RW aF SC aj ak jl wN
theorem Lu {P:Program}{env:List (Nat×SV)}{hp:Hp}{k d p q s:Nat}{g:Option (Nat×Bool)}{r:List SI}{K:St→List (Bool×List Nat)→Prop}(a b c:Dt)
  (hg:g=none∨∃ t w,g=some (t,w)∧env.lookup t=some (.d (.bool w))) (ha:env.lookup p=some (.agg a.cells)) (hb:env.lookup q=some (.agg b.cells)) (hc:env.lookup s=some (.agg c.cells))
  (h:RW P r ⟨(d,aY [a,b,c])::env,hp,k⟩ fun st' ts=>K st' ((false,[])::ts)):RW P (⟨some d,.pz 37 2 3 [.d (.int .u8 0),.d (.int .u32 0),.d (.int .u8 0),.d (.int .u32 0),.d (.int .u8 0),.d (.int .u32 0)] [(0,2,.t p),(2,2,.t q),(4,2,.t s)],g⟩::r) ⟨env,hp,k⟩ K:=by
 refine RW.cons (e:=⟨aY [a,b,c],[],[],0,(2=2∧0+2≤6∧2=2∧2+2≤6∧2=2∧4+2≤6∧True)⟩) (fun dx=>⟨.jq::dx,fU hg ?_⟩) (by show (2=2∧0+2≤6∧2=2∧2+2≤6∧2=2∧4+2≤6∧True);decide) ?_
 ·have h1:vA (fun t=>env.lookup t) [(0,2,X.t p),(2,2,X.t q),(4,2,X.t s)]=some [(0,2,.agg a.cells),(2,2,.agg b.cells),(4,2,.agg c.cells)]:=by
   simp only [vA,ev,ha,hb,hc]
  have h2:lX [SV.d (.int .u8 0),SV.d (.int .u32 0),SV.d (.int .u8 0),SV.d (.int .u32 0),SV.d (.int .u8 0),SV.d (.int .u32 0)] [(0,2,.agg a.cells),(2,2,.agg b.cells),(4,2,.agg c.cells)]=some (a.cells++(b.cells++c.cells),(2=2∧0+2≤6∧2=2∧2+2≤6∧2=2∧4+2≤6∧True)):=rfl;have h3:eH (a.cells++(b.cells++c.cells))=some ([a,b,c].flatMap Dt.ds):=rfl;have h4:(a.cells++(b.cells++c.cells)).all SV.dG=true:=rfl;simp only [eU,dm,h1,h2,h3,h4,if_true,Bool.false_or];rfl
 ·exact h
theorem Lv {P:Program}{env:List (Nat×SV)}{hp:Hp}{k d p q s v:Nat}{g:Option (Nat×Bool)}{r:List SI}{K:St→List (Bool×List Nat)→Prop}(a b c e:Dt)
  (hg:g=none∨∃ t w,g=some (t,w)∧env.lookup t=some (.d (.bool w))) (ha:env.lookup p=some (.agg a.cells)) (hb:env.lookup q=some (.agg b.cells)) (hc:env.lookup s=some (.agg c.cells)) (he:env.lookup v=some (.agg e.cells))
  (h:RW P r ⟨(d,aY [a,b,c,e])::env,hp,k⟩ fun st' ts=>K st' ((false,[])::ts)):RW P (⟨some d,.pz 37 2 4 [.d (.int .u8 0),.d (.int .u32 0),.d (.int .u8 0),.d (.int .u32 0),.d (.int .u8 0),.d (.int .u32 0),.d (.int .u8 0),.d (.int .u32 0)] [(0,2,.t p),(2,2,.t q),(4,2,.t s),(6,2,.t v)],g⟩::r) ⟨env,hp,k⟩ K:=by
 refine RW.cons (e:=⟨aY [a,b,c,e],[],[],0,(2=2∧0+2≤8∧2=2∧2+2≤8∧2=2∧4+2≤8∧2=2∧6+2≤8∧True)⟩) (fun dx=>⟨.jq::dx,fU hg ?_⟩) (by show (2=2∧0+2≤8∧2=2∧2+2≤8∧2=2∧4+2≤8∧2=2∧6+2≤8∧True);decide) ?_
 ·have h1:vA (fun t=>env.lookup t) [(0,2,X.t p),(2,2,X.t q),(4,2,X.t s),(6,2,X.t v)]=some [(0,2,.agg a.cells),(2,2,.agg b.cells),(4,2,.agg c.cells),(6,2,.agg e.cells)]:=by
   simp only [vA,ev,ha,hb,hc,he]
  have h2:lX [SV.d (.int .u8 0),SV.d (.int .u32 0),SV.d (.int .u8 0),SV.d (.int .u32 0),SV.d (.int .u8 0),SV.d (.int .u32 0),SV.d (.int .u8 0),SV.d (.int .u32 0)] [(0,2,.agg a.cells),(2,2,.agg b.cells),(4,2,.agg c.cells),(6,2,.agg e.cells)]=some (a.cells++(b.cells++(c.cells++e.cells)),(2=2∧0+2≤8∧2=2∧2+2≤8∧2=2∧4+2≤8∧2=2∧6+2≤8∧True)):=rfl;have h3:eH (a.cells++(b.cells++(c.cells++e.cells)))=some ([a,b,c,e].flatMap Dt.ds):=rfl;have h4:(a.cells++(b.cells++(c.cells++e.cells))).all SV.dG=true:=rfl;simp only [eU,dm,h1,h2,h3,h4,if_true,Bool.false_or];rfl
 ·exact h
set_option maxRecDepth 100000 in
set_option maxHeartbeats 4000000 in
theorem B2:Go.Sl.Pure Tryz.prog law20_row.f [] (ops [q1,q2,q3,q4,q5]):=by
 refine law20_row.enter (by first | rfl | simp [SV.ok,SV.aA]) (by first | rfl | simp [Hp.ok,Ob.ok,SV.ok,SV.aA,av.an]) (by simp) ?_
 dsimp only [law20_row.s,Co.M,Co.G,Co.J,Co.H,Co.N,Co.F,Co.C,Co.Z,Co.B,Co.b8,Co.ay,Co.bU,Co.i6,Co.z8,Co.cq];refine SW.seq ?_;refine SW.g0 [0,1] mixed af ?_;refine SW.seq ?_;refine SW.g0 [0,1] mixed af ?_;refine SW.seq ?_
 (refine SW.dL [0,1] mixed ?_;(repeat (first | refine RW.EI q1.cells rfl rfl (by decide) (h:= ?_) | refine RW.EI q2.cells rfl rfl (by decide) (h:= ?_) | refine RW.EI q3.cells rfl rfl (by decide) (h:= ?_) | refine RW.EI q4.cells rfl rfl (by decide) (h:= ?_) | refine RW.EI q5.cells rfl rfl (by decide) (h:= ?_) | refine Md q1 q2 q3 q4 q5 rfl rfl rfl rfl rfl rfl (h:= ?_) | refine RW.ro af (h:= ?_) | refine RW.skip (h:= ?_) | refine RW.op af (h:= ?_) | refine RW.d_ af (h:= ?_) | refine RW.bJ (h:= ?_)));refine RW.nil ⟨by kernel_rfl,ak.mk (h:= ?_)⟩)
 refine SW.ret ?_;exact End.mk [] (h4:=⟨rfl,rfl⟩)
theorem B3 (k:Nat):aF Tryz.prog law20_row.f [] [] k 0 (ops bA) []:=by
 have h0:aF Tryz.prog law20_row.f [] [] k 0 (ops [q1,q2,q3,q4,q5]) []:=B2.sc rfl k;refine SC.KX h0 fun p μ M u hu=> ?_
 rw [Rp.cH] at hu ⊢;have:=bQ.MA hu;rw [← C7] at this;exact this
theorem nw:mM bA:=EK
theorem Ni (k:Nat):aF Tryz.prog final_Verdicts.f [ops bA,.agg (gB 4).cells] [] k 0 (aY [⟨0,1⟩,⟨0,2⟩,⟨0,3⟩]) []:=by
 have:=lQ bA (by decide) nw (gB 4) k
 rwa [Mr] at this
theorem Ms (k:Nat):aF Tryz.prog final_Verdicts.f [ops bA,.agg (iy 4 1).cells] [] k 0 (aY [⟨0,1⟩,⟨0,2⟩,⟨0,3⟩,⟨0,4⟩,⟨1,1⟩]) []:=by
 have:=lQ bA (by decide) nw (iy 4 1) k
 rwa [Lq] at this
theorem Mt (k:Nat):aF Tryz.prog final_Verdicts.f [ops bA,.agg (iy 3 1).cells] [] k 0 (aY [⟨0,1⟩,⟨0,2⟩,⟨0,3⟩,⟨1,1⟩]) []:=by
 have:=lQ bA (by decide) nw (iy 3 1) k
 rwa [Lr] at this
theorem Mu (k:Nat):aF Tryz.prog final_Waits.f [ops bA,.agg (gB 4).cells,.agg (Dt.mk 0 4).cells] [] k 0 (.dU [aY [⟨1,1⟩],.d (.int .i64 0)]) []:=by
 have:=pq bA (by decide) nw (gB 4) ⟨0,4⟩ k
 rwa [Ls] at this
theorem Mv (k:Nat):aF Tryz.prog final_Waits.f [ops bA,.agg (gB 4).cells,.agg (Dt.mk 0 5).cells] [] k 0 (.dU [.d .aP,.d (.int .i64 7)]) []:=by
 have:=pq bA (by decide) nw (gB 4) ⟨0,5⟩ k
 rwa [Lt] at this
theorem v4:bW av.zero.cells 0 [.d (.int .u32 4)]=(gB 4).cells:=rfl
theorem v3:bW av.zero.cells 0 [.d (.int .u32 3)]=(gB 3).cells:=rfl
theorem v41:bW (gB 4).cells 1 [.d (.int .u32 1)]=(iy 4 1).cells:=rfl
theorem v31:bW (gB 3).cells 1 [.d (.int .u32 1)]=(iy 3 1).cells:=rfl
theorem e5:bW (Dt.mk 0 0).cells 1 [.d (.int .u32 5)]=(Dt.mk 0 5).cells:=rfl
theorem Nj:bW (Dt.mk 0 0).cells 1 [.d (.int .u32 1)]=(Dt.mk 0 1).cells:=rfl
theorem Nk:bW (Dt.mk 0 0).cells 1 [.d (.int .u32 2)]=(Dt.mk 0 2).cells:=rfl
theorem Mw:bW (bW (Dt.mk 0 0).cells 0 [.d (.int .u8 1)]) 1 [.d (.int .u32 1)]=(Dt.mk 1 1).cells:=rfl
theorem l5:((([⟨0,1⟩,⟨0,2⟩,⟨0,3⟩,⟨0,4⟩,⟨1,1⟩]:List Dt).length:Int) == 5)=true:=rfl
theorem Nl (k:Nat):aF Tryz.prog ref03_Same.f [aY [⟨0,1⟩,⟨0,2⟩,⟨0,3⟩],aY [⟨0,1⟩,⟨0,2⟩,⟨0,3⟩]] [] k 0 (.d (.bool true)) []:=vR [⟨0,1⟩,⟨0,2⟩,⟨0,3⟩] [⟨0,1⟩,⟨0,2⟩,⟨0,3⟩] (by decide) (by decide) k
theorem Nn (k:Nat):aF Tryz.prog ref03_Same.f [aY [⟨0,1⟩,⟨0,2⟩,⟨0,3⟩,⟨1,1⟩],aY [⟨0,1⟩,⟨0,2⟩,⟨0,3⟩,⟨1,1⟩]] [] k 0 (.d (.bool true)) []:=vR [⟨0,1⟩,⟨0,2⟩,⟨0,3⟩,⟨1,1⟩] [⟨0,1⟩,⟨0,2⟩,⟨0,3⟩,⟨1,1⟩] (by decide) (by decide) k
theorem No (k:Nat):aF Tryz.prog ref03_Same.f [aY [⟨1,1⟩],.d (.sl 1 (Dt.mk 1 1).ds)] [] k 0 (.d (.bool true)) []:=vR [⟨1,1⟩] [⟨1,1⟩] (by decide) (by decide) k
set_option maxHeartbeats 16000000 in
theorem B4:Go.Sl.Pure Tryz.prog law20_head.f [] (bl true):=by
 refine law20_head.enter (by first | rfl | simp [SV.ok,SV.aA]) (by first | rfl | simp [Hp.ok,Ob.ok,SV.ok,SV.aA,av.an]) (by simp) ?_
 dsimp only [law20_head.s,Co.M,Co.G,Co.J,Co.H,Co.N,Co.F,Co.C,Co.Z,Co.B,Co.b8,Co.ay,Co.bU,Co.i6,Co.z8,Co.cq];refine SW.seq ?_;refine SW.g0 [0,1,2,3,4,5,6,8] mixed af ?_;refine SW.seq ?_;refine SW.g1 [0,1,2,3,4,5,6,8] mixed af B3 ?_;refine SW.seq ?_;refine SW.g4 [0,1,2,3,4,5,6,8] mixed (And.intro (v4) (And.intro (v3) (And.intro (v41) (v31)))) Ni Ms Mt trivial ?_;refine SW.seq ?_;refine SW.g1 [0,1,2,3,4,5,6,8] mixed (And.intro (v4) (d4)) Mu ?_;refine SW.seq ?_;refine SW.g1 [0,1,2,3,4,5,6,8] mixed (And.intro (v4) (e5)) Mv ?_;refine SW.seq ?_
 (have fx:=(And.intro (Nj) (And.intro (Nk) (And.intro (d3) (And.intro (Mw) (l5)))));refine SW.dL [0,1,2,3,4,5,6,8] mixed ?_;(repeat (first | refine Lu (Dt.mk 0 1) (Dt.mk 0 2) (Dt.mk 0 3) (.inl rfl) rfl rfl rfl (h:= ?_) | refine Lv (Dt.mk 0 1) (Dt.mk 0 2) (Dt.mk 0 3) (Dt.mk 1 1) (.inr (Exists.intro _ (Exists.intro _ (And.intro rfl rfl)))) rfl rfl rfl rfl (h:= ?_) | refine RW.ro fx (h:= ?_) | refine RW.skip (h:= ?_) | refine RW.op fx (h:= ?_) | refine RW.d_ fx (h:= ?_) | refine RW.bJ (h:= ?_) | (refine RW.bu (h:= ?_);(first | refine aj.mk fx (hc:=Nl _) (h:= ?_) | refine aj.mk fx (hc:=Nn _) (h:= ?_) | refine aj.mk fx (hc:=No _) (h:= ?_)))));refine RW.nil ⟨by kernel_rfl,ak.mk (h:= ?_)⟩)
 refine SW.ret ?_;exact End.mk [] (h4:=⟨rfl,rfl⟩)
theorem ja (k:Nat):aF Tryz.prog law20_head.f [] [] k 0 (.d (.bool true)) []:=B4.sc rfl k
end
section
attribute [local irreducible] SW RW aF SC aj ak jl wN
theorem vr (l:List ag)(V D:List Dt):(kD l V D).length≤V.length:=List.length_filter_le _ _
end
section
attribute [local irreducible] SW RW aF SC aj ak jl wN
noncomputable def Fm (l:List ag)(st:av)(d:Dt):List Dt:=if (bB l d).isSome then cA l st d else []
noncomputable def Fo (l:List ag)(d:Dt):Int:=if (bB l d).isSome then 0 else 7
theorem B5 {l:List ag}(hl:l.length≤80)(hd:mM l)(st:av)(d:Dt)(k:Nat):aF Tryz.prog final_Waits.f [ops l,.agg st.cells,.agg d.cells] [] k 0 (.dU [aY (Fm l st d),.d (.int .i64 (Fo l d))]) []:=by
 have h:=pq l hl hd st d k;unfold aF at h ⊢;refine SC.res h ?_;rintro r F ⟨rfl,rfl⟩;refine ⟨_,⟨rfl,rfl⟩,fun p μ M u hu=> ?_⟩
 unfold jx at hu;unfold Fm Fo;cases hg:(bB l d).isSome with
 | true=>rw [hg] at hu;exact hu
 | false=>
  rw [hg] at hu;simp only [Bool.false_eq_true,if_false] at hu ⊢;obtain ⟨vs,rfl,h1⟩:=Rp.dF.1 hu;obtain ⟨u1,us,e1,h2,h3⟩:=aN.aC.1 h1;exact Rp.dF.2 ⟨vs,rfl,e1 ▸ aN.aC.2 ⟨u1,us,rfl,nH _ _ _ _ h2,h3⟩⟩
end
section
attribute [local irreducible] SW RW aF SC aj ak
theorem JN {l:List ag}{i:Nat}{x:ag}(h:l[i]? =some x):(List.map SV.d (l.flatMap ag.ds))[i*29]? =some (u8 x.dot.r):=by
 have:=yX h (j:=0) (by omega)
 rw [Nat.add_zero] at this;rw [this];rfl
theorem JO {l:List ag}{i:Nat}{x:ag}(h:l[i]? =some x):(List.map SV.d (l.flatMap ag.ds))[i*29+1]? =some (u32 x.dot.n):=by rw [yX h (by omega)];rfl
set_option maxHeartbeats 2000000 in
theorem zI (l:List ag)(hl:l.length≤9223372036854775807):Go.Sl.Pure Tryz.prog ref10_Known.f [ops l] (.agg (fV l).cells):=by
 refine ref10_Known.enter (by first | rfl | simp [SV.ok,SV.aA]) (by first | rfl | simp [Hp.ok,Ob.ok,SV.ok,SV.aA,av.an]) (by simp) ?_
 dsimp only [ref10_Known.s,Co.M,Co.G,Co.J,Co.H,Co.N,Co.F,Co.C,Co.Z,Co.B,Co.b8,Co.ay,Co.bU,Co.i6,Co.z8,Co.cq];refine SW.seq ?_;refine SW.g0 [0,2,3,4,8,34] mixed af ?_;refine SW.seq ?_;refine SW.g0 [0,2,3,4,8,34] mixed af ?_;refine SW.seq (SW.seq ?_);refine SW.g0 [0,2,3,4,8,34] mixed af ?_;refine SW.block ?_;refine SW.lD (α:={i:Nat // i≤l.length}) (fun i=>⟨[(4,i64 i.1),(0,ops l),(2,.ptr 0 0),(3,.ptr 1 0)],[(1,.box 39 (fV (l.take i.1)).cells),(0,.box 39 av.zero.cells)],2⟩) (fun i=>l.length - i.1) ⟨0,by omega⟩ id (And.intro (show fV []=av.zero from rfl) af) (round:= ?_)
 rintro ⟨i,hi⟩;dsimp only
 by_cases h:i<l.length
 ·have h1:decide ((i:Int)<l.length)=true:=by simp only [decide_eq_true_eq];omega
  obtain ⟨x,hx⟩:=bF h;have e2:IntKind.i64.wrap ((i:Int)+1)=((i+1:Nat):Int):=wrap_i64 _ (by omega)
  have e1:l.take (i+1)=l.take i++[x]:=fu hx;have hsn:=xF (l.take i) x;rw [← e1] at hsn;unfold j0 at hsn;generalize fV (l.take i)=v at hsn ⊢
  by_cases hr:x.dot.r<8
  ·have e4:decide ((x.dot.r:Int)<8)=true:=by simp;omega
   rw [if_pos hr] at hsn
   by_cases hv:v.get x.dot.r<x.dot.n
   ·have e5:decide ((x.dot.n:Int)>((v.get x.dot.r:Nat):Int))=true:=by simp;omega
    rw [Nat.max_eq_right (by omega)] at hsn
    have e6:bW v.cells x.dot.r [.d (.int .u32 (x.dot.n:Int))]=(v.set x.dot.r x.dot.n).cells:=by rw [FY];exact av.uE v hr _
    (repeat (first | refine SW.seq ?_ | refine SW.block ?_ | refine SW.g0 [0,2,3,4,8,34] mixed (And.intro (h1) (And.intro (JN hx) (And.intro (JO hx) (And.intro (e2) (And.intro (e4) (And.intro (av.iF v hr) (And.intro (e5) (e6)))))))) ?_ | refine SW.skip ?_ | refine SW.exit ?_ | refine SW.ret ?_ | refine SW.au rfl ?_ | refine SW.aq rfl ?_))
    dsimp only;exact ⟨⟨i+1,by omega⟩,id,by show l.length - (i+1)<_;omega,aM.mk (And.intro hsn af)⟩
   ·have e5:decide ((x.dot.n:Int)>((v.get x.dot.r:Nat):Int))=false:=by simp;omega
    rw [Nat.max_eq_left (by omega)] at hsn
    have e7:v.set x.dot.r (v.get x.dot.r)=v:=av.ext' fun q hq=>by rw [av.vG _ _ _ hq];split <;> simp_all
    rw [e7] at hsn
    (repeat (first | refine SW.seq ?_ | refine SW.block ?_ | refine SW.g0 [0,2,3,4,8,34] mixed (And.intro (h1) (And.intro (JN hx) (And.intro (JO hx) (And.intro (e2) (And.intro (e4) (And.intro (av.iF v hr) (e5))))))) ?_ | refine SW.skip ?_ | refine SW.exit ?_ | refine SW.ret ?_ | refine SW.au rfl ?_ | refine SW.aq rfl ?_))
    dsimp only;exact ⟨⟨i+1,by omega⟩,id,by show l.length - (i+1)<_;omega,aM.mk (And.intro hsn af)⟩
  ·have e4:decide ((x.dot.r:Int)<8)=false:=by simp;omega
   rw [if_neg hr] at hsn
   (repeat (first | refine SW.seq ?_ | refine SW.block ?_ | refine SW.g0 [0,2,3,4,8,34] mixed (And.intro (h1) (And.intro (JN hx) (And.intro (JO hx) (And.intro (e2) (e4))))) ?_ | refine SW.skip ?_ | refine SW.exit ?_ | refine SW.ret ?_ | refine SW.au rfl ?_ | refine SW.aq rfl ?_))
   dsimp only;exact ⟨⟨i+1,by omega⟩,id,by show l.length - (i+1)<_;omega,aM.mk (And.intro hsn af)⟩
 ·have h1:decide ((i:Int)<l.length)=false:=by simp only [decide_eq_false_iff_not];omega
  have h2:i=l.length:=by omega
  subst h2;rw [List.take_length]
  (repeat (first | refine SW.seq ?_ | refine SW.block ?_ | refine SW.g0 [0,2,3,4,8,34] mixed (h1) ?_ | refine SW.skip ?_ | refine SW.exit ?_ | refine SW.ret ?_ | refine SW.au rfl ?_ | refine SW.aq rfl ?_))
  exact End.mk [] (h4:=⟨rfl,rfl⟩)
theorem zJ (l:List ag)(hl:l.length≤9223372036854775807)(k:Nat):aF Tryz.prog ref10_Known.f [ops l] [] k 0 (.agg (fV l).cells) []:=(zI l hl).sc rfl k
set_option maxHeartbeats 4000000 in
theorem B6 (l:List av)(hl:l.length<1000000000):Go.Sl.Pure Tryz.prog ref04_Merge.f [FX l] (.agg (av.all max l).cells):=by
 refine ref04_Merge.enter (by first | rfl | simp [SV.ok,SV.aA]) (by first | rfl | simp [Hp.ok,Ob.ok,SV.ok,SV.aA,av.an]) (by simp) ?_
 dsimp only [ref04_Merge.s,Co.M,Co.G,Co.J,Co.H,Co.N,Co.F,Co.C,Co.Z,Co.B,Co.b8,Co.ay,Co.bU,Co.i6,Co.z8,Co.cq];refine SW.seq ?_;refine SW.g0 [0,2,3,4,5,9,13] mixed af ?_;refine SW.seq ?_;refine SW.g0 [0,2,3,4,5,9,13] mixed af ?_;refine SW.seq (SW.seq ?_);refine SW.g0 [0,2,3,4,5,9,13] mixed af ?_;refine SW.block ?_;refine SW.lD (α:={i:Nat // i≤l.length}) (fun i=>⟨[(4,i64 i.1),(0,FX l),(2,.ptr 0 0),(3,.ptr 1 0)],[(1,.box 39 ((l.take i.1).foldl (av.zip max) av.zero).cells),(0,.box 39 av.zero.cells)],2⟩) (fun i=>l.length - i.1) ⟨0,by omega⟩ id af (round:= ?_)
 rintro ⟨i,hi⟩;dsimp only
 by_cases h:i<l.length
 ·obtain ⟨x,hx⟩:=bF h
  have h1:decide ((i:Int)<l.length)=true:=by simp only [decide_eq_true_eq];omega
  have e2:IntKind.i64.wrap ((i:Int)+1)=((i+1:Nat):Int):=wrap_i64 _ (by omega)
  have hsn:(l.take (i+1)).foldl (av.zip max) av.zero=av.zip max ((l.take i).foldl (av.zip max) av.zero) x:=by rw [fu hx,yW]
  generalize (l.take i).foldl (av.zip max) av.zero=a at hsn ⊢;refine SW.seq (SW.seq ?_);refine SW.g0 [0,2,3,4,5,9,13] mixed (h1) ?_;refine SW.au rfl (SW.skip ?_);refine SW.seq (SW.block (SW.seq ?_));refine SW.g0 [0,2,3,4,5,9,13] mixed af ?_;refine SW.block ?_;refine SW.lD (α:={r:Nat // r≤8}) (fun r=>⟨[(5,i64 r.1),(4,i64 i),(0,FX l),(2,.ptr 0 0),(3,.ptr 1 0)],[(1,.box 39 (av.upto r.1 (av.zip max a x) a).cells),(0,.box 39 av.zero.cells)],2⟩) (fun r=>8 - r.1) ⟨0,by omega⟩ id (av.A1 (av.zip max a x) a) (round:= ?_)
  rintro ⟨r,hr⟩;dsimp only
  by_cases hr2:r<8
  ·have h2:decide ((r:Int)<8)=true:=by simp only [decide_eq_true_eq];omega
   have e3:IntKind.i64.wrap ((r:Int)+1)=((r+1:Nat):Int):=wrap_i64 _ (by omega)
   have hu:=av.tW max a x hr2;have hg:=av.A7 (av.zip max a x) a hr2;generalize av.upto r (av.zip max a x) a=w at hu hg ⊢;have g1:=av.iF w hr2;rw [hg] at g1;have e:(if (x.get r:Int)>(a.get r:Int) then (x.get r:Int) else (a.get r:Int))=((max (a.get r) (x.get r):Nat):Int):=by split <;> omega
   have e4:bW w.cells r [.d (.int .u32 ((max (a.get r) (x.get r):Nat):Int))]=(av.upto (r+1) (av.zip max a x) a).cells:=by rw [av.FW w hr2,hu]
   refine SW.seq (SW.seq ?_);refine SW.g0 [0,2,3,4,5,9,13] mixed (h2) ?_;refine SW.au rfl (SW.skip ?_);refine SW.seq (SW.block ?_);refine SW.g0 [0,2,3,4,5,9,13] mixed (And.intro (g1) (And.intro (CQ hx hr2) (And.intro (e) (e4)))) ?_;refine SW.g0 [0,2,3,4,5,9,13] mixed (e3) ?_;refine ⟨⟨r+1,by omega⟩,id,by show 8 - (r+1)<_;omega,?_⟩
   dsimp only;exact aM.mk af
  ·have h2:decide ((r:Int)<8)=false:=by simp only [decide_eq_false_iff_not];omega
   have e8:r=8:=by omega
   subst e8;rw [av.CO];refine SW.seq (SW.seq ?_);refine SW.g0 [0,2,3,4,5,9,13] mixed (h2) ?_;refine SW.aq rfl (SW.exit ?_);refine SW.g0 [0,2,3,4,5,9,13] mixed (e2) ?_;refine ⟨⟨i+1,by omega⟩,id,by show l.length - (i+1)<_;omega,?_⟩
   dsimp only;rw [hsn];exact aM.mk af
 ·have h1:decide ((i:Int)<l.length)=false:=by simp only [decide_eq_false_iff_not];omega
  have h2:i=l.length:=by omega
  subst h2;rw [List.take_length,← av.z_];refine SW.seq (SW.seq ?_);refine SW.g0 [0,2,3,4,5,9,13] mixed (h1) ?_;refine SW.aq rfl (SW.exit ?_);refine SW.seq ?_;refine SW.g0 [0,2,3,4,5,9,13] mixed af ?_;refine SW.ret ?_;exact End.mk [] (h4:=⟨rfl,rfl⟩)
theorem zK (a b:av)(k:Nat):aF Tryz.prog ref04_Merge.f [.d (.sl 2 (a.ds++b.ds))] [] k 0 (.agg (av.zip max a b).cells) []:=by
 have:=(B6 [a,b] (by show 2<1000000000;decide)).sc rfl k
 have e1:av.all max [a,b]=av.zip max a b:=by
  rw [av.z_];show av.zip max (av.zip max av.zero a) b=_;have:av.zip max av.zero a=a:=av.ext' fun q hq=>by
   rw [av.r7 _ _ _ hq];have:av.zero.get q=0:=by unfold av.get av.zero;split <;> rfl
   rw [this];omega
  rw [this]
 rw [e1] at this;have e2:FX [a,b]= .d (.sl 2 (a.ds++b.ds)):=rfl
 rwa [e2] at this
end
section
attribute [local irreducible] SW RW aF SC aj ak jl wN
noncomputable def jo (l:List ag)(st:av):List Dt:=(fJ l).filter fun d=>decide (cA l st d=[])
theorem qu {l:List ag}{st:av}{d:Dt}:d∈jo l st↔d∈fJ l∧cA l st d=[]:=by
 unfold jo;rw [List.mem_filter,decide_eq_true_eq]
theorem rB {l:List ag}{st:av}{d:Dt}:cA l st d=[]↔∀ e,e∈fJ l→Reach (eB l) d e→st.aU e=true:=by
 rw [List.eq_nil_iff_forall_not_mem];constructor
 ·intro h e he hr
  cases hc:st.aU e with
  | true=>rfl
  | false=>exact absurd (lN.2 ⟨he,hr,hc⟩) (h e)
 ·intro h e he
  obtain ⟨h1,h2,h3⟩:=lN.1 he;rw [h e h1 h2] at h3;cases h3
theorem B7 {l:List ag}{a b:av}(h:∀ e,a.aU e=true→b.aU e=true){d:Dt}(hd:d∈jo l a):d∈jo l b:=by
 obtain ⟨h1,h2⟩:=qu.1 hd;exact qu.2 ⟨h1,rB.2 fun e he hr=>h e (rB.1 h2 e he hr)⟩
theorem tL (l:List ag)(st:av):(jo l st).length≤l.length:=by
 unfold jo;exact Nat.le_trans (List.length_filter_le _ _) (AQ l)
theorem zL {l:List ag}{V W D:List Dt}(h:∀ d,d∈V→d∈W){d:Dt}(hd:d∈kD l V D):d∈V∧d∈kD l W D:=by
 unfold kD at hd ⊢;rw [List.mem_filter] at hd;refine ⟨hd.1,List.mem_filter.2 ⟨h d hd.1,?_⟩⟩;have h2:=hd.2;simp only [Bool.not_eq_true',List.any_eq_false,Hs,Bool.and_eq_true,Bool.not_eq_true',decide_eq_false_iff_not,not_and] at h2 ⊢;exact fun e he hf hn=>h2 e he hf fun hv=>hn (h e hv)
theorem B8 {l:List ag}(hm:∀ x,x∈l→x.dot.may=true){d:Dt}(hd:d∈fJ l):d∈jo l (fV l):=by
 refine qu.2 ⟨hd,rB.2 fun e he _=> ?_⟩
 rw [Dt.mem_set,List.mem_map] at he;obtain ⟨x,hx,rfl⟩:=he;have h1:=hm x hx;have h2:x.dot.r<8:=by
  simp only [Dt.may,Bool.and_eq_true,decide_eq_true_eq] at h1;exact h1.1
 unfold av.aU;rw [h1,decide_eq_true (Bk hx h2)];rfl
set_option maxHeartbeats 16000000 in
theorem zM (l:List ag)(st s2:av)(hd:∀ o,o∈l→o.bn<256∧o.kind<256∧o.mS∧o.dot.wf∧o.cl.length≤140737488351232)(hlen:l.length≤9223372036854775807):
  SB Tryz.prog law20_FinalMore.f [ops l,.agg st.cells,.agg s2.cells] [] 0 0 (fun r F=>r=bl true):=by
 refine law20_FinalMore.enter (by first | rfl | simp [SV.ok,SV.aA]) (by first | rfl | simp [Hp.ok,Ob.ok,SV.ok,SV.aA,av.an]) (by simp) ?_
 dsimp only [law20_FinalMore.s,Co.M,Co.G,Co.J,Co.H,Co.N,Co.F,Co.C,Co.Z,Co.B,Co.b8,Co.ay,Co.bU,Co.i6,Co.z8,Co.cq];have hG':=Dc l (fun o ho=>⟨_,_,(hd o ho).2.2.1.eq,(hd o ho).2.2.1.le⟩) hlen
 refine SW.seq ?_;refine SW.g0 [0,1,2,4,5,6,7,8,9,10,11,12,13,14,15,16,17,24,29,38,65,74,78,96,100,138] mixed af ?_;refine SW.seq (SW.seq ?_);rcases hG:iV l with _ | _
 rotate_left
 ·rw [hG] at hG'
  refine SW.g2 [0,1,2,4,5,6,7,8,9,10,11,12,13,14,15,16,17,24,29,38,65,74,78,96,100,138] mixed af hG' ja ?_;refine SW.au rfl (SW.seq ?_);refine SW.g2 [0,1,2,4,5,6,7,8,9,10,11,12,13,14,15,16,17,24,29,38,65,74,78,96,100,138] mixed af hG' ja ?_;refine SW.ret ?_;exact End.mk [] (h4:=rfl)
 rw [hG] at hG';have hl80:=u7 hG;have hd':=yg hG (fun o ho=>⟨(hd o ho).2.2.1,(hd o ho).2.2.2.2⟩)
 have hd3:∀ o,o∈l→o.bn<256∧o.mS∧o.dot.wf:=fun o ho=>⟨(hd o ho).1,(hd o ho).2.2.1,(hd o ho).2.2.2.1⟩
 have hrow:mM l:=fun o ho=>⟨(hd o ho).2.1,(hd o ho).2.2.1,hd' o ho⟩
 rcases h50:decide ((l.length:Int)>50) with _ | _
 rotate_left
 ·skip
  refine SW.g2 [0,1,2,4,5,6,7,8,9,10,11,12,13,14,15,16,17,24,29,38,65,74,78,96,100,138] mixed (h50) hG' ja ?_;refine SW.au rfl (SW.seq ?_);refine SW.g2 [0,1,2,4,5,6,7,8,9,10,11,12,13,14,15,16,17,24,29,38,65,74,78,96,100,138] mixed af hG' ja ?_;refine SW.ret ?_;exact End.mk [] (h4:=rfl)
 refine SW.g1 [0,1,2,4,5,6,7,8,9,10,11,12,13,14,15,16,17,24,29,38,65,74,78,96,100,138] mixed (h50) hG' ?_;refine SW.aq rfl (SW.skip ?_);refine SW.seq (SW.seq ?_);refine SW.g0 [0,1,2,4,5,6,7,8,9,10,11,12,13,14,15,16,17,24,29,38,65,74,78,96,100,138] mixed af ?_;refine SW.block ?_;refine SW.lD (α:={i:Nat // i≤l.length∧∀ x,x∈l.take i→x.dot.may=true}) (fun i=>⟨[(7,i64 i.1),(5,.ptr 1 0),(4,.ptr 0 0),(0,ops l)],[(1,.box 39 s2.cells),(0,.box 39 st.cells)],2⟩) (fun i=>l.length - i.1) ⟨0,by simp⟩ id af (round:= ?_)
 rintro ⟨i,hi,hmi⟩;dsimp only
 by_cases h:i<l.length
 ·obtain ⟨x,hx⟩:=bF h
  have h1:decide ((i:Int)<l.length)=true:=by simp only [decide_eq_true_eq];omega
  have e2:IntKind.i64.wrap ((i:Int)+1)=((i+1:Nat):Int):=wrap_i64 _ (by omega)
  have cM:=qc x.dot;refine SW.seq (SW.seq ?_);refine SW.g0 [0,1,2,4,5,6,7,8,9,10,11,12,13,14,15,16,17,24,29,38,65,74,78,96,100,138] mixed (h1) ?_;refine SW.au rfl (SW.skip ?_);refine SW.seq (SW.block (SW.seq ?_));cases hm:x.dot.may with
  | false=>
   rw [hm] at cM;refine SW.g2 [0,1,2,4,5,6,7,8,9,10,11,12,13,14,15,16,17,24,29,38,65,74,78,96,100,138] mixed (And.intro (og hx) (lH hx)) cM ja ?_;refine SW.au rfl (SW.seq ?_);refine SW.g2 [0,1,2,4,5,6,7,8,9,10,11,12,13,14,15,16,17,24,29,38,65,74,78,96,100,138] mixed af cM ja ?_;refine SW.ret ?_;exact End.mk [] (h4:=rfl)
  | true=>
   rw [hm] at cM;refine SW.g1 [0,1,2,4,5,6,7,8,9,10,11,12,13,14,15,16,17,24,29,38,65,74,78,96,100,138] mixed (And.intro (og hx) (lH hx)) cM ?_;refine SW.aq rfl (SW.skip ?_);refine SW.g0 [0,1,2,4,5,6,7,8,9,10,11,12,13,14,15,16,17,24,29,38,65,74,78,96,100,138] mixed (e2) ?_;refine ⟨⟨i+1,by omega,fun y hy=> ?_⟩,id,by show l.length - (i+1)<_;omega,?_⟩
   ·rw [fu hx,List.mem_append] at hy
    rcases hy with hy | hy
    ·exact hmi y hy
    ·rw [List.mem_singleton.1 hy];exact hm
   ·exact aM.mk af
 have h1:decide ((i:Int)<l.length)=false:=by simp only [decide_eq_false_iff_not];omega
 have hmay:∀ x,x∈l→x.dot.may=true:=fun x hx=>hmi x (by rw [List.take_of_length_le (by omega)];exact hx)
 refine SW.seq (SW.seq ?_);refine SW.g0 [0,1,2,4,5,6,7,8,9,10,11,12,13,14,15,16,17,24,29,38,65,74,78,96,100,138] mixed (h1) ?_;refine SW.aq rfl (SW.exit ?_);refine (?_:Sl.SW _ _ _ _ _ _);have cMg:=zK st s2;have cKn:=zJ l hlen;have hmono:∀ e,st.aU e=true→(av.zip max st s2).aU e=true:=fun e he=>by rw [av.vK,he];rfl
 generalize av.zip max st s2=m at cMg hmono;have hKa:∀ x,x∈l→x.dot∈jo l (fV l):=fun x hx=>B8 hmay (Dt.mem_set.2 (List.mem_map.2 ⟨x,hx,rfl⟩))
 have cV:∀ k,aF Tryz.prog final_Verdicts.f [ops l,.agg (st).cells] [] k 0 (aY (jo l (st))) []:=lQ l hl80 hrow st;have cV2:∀ k,aF Tryz.prog final_Verdicts.f [ops l,.agg (m).cells] [] k 0 (aY (jo l (m))) []:=lQ l hl80 hrow m;have cV3:∀ k,aF Tryz.prog final_Verdicts.f [ops l,.agg (fV l).cells] [] k 0 (aY (jo l (fV l))) []:=lQ l hl80 hrow (fV l);have cO:∀ k,aF Tryz.prog final_Outcomes.f [ops l,.agg (st).cells] [] k 0 (aY (kD l (jo l (st)) (fJ l))) []:=yE l hl80 hrow st;have cO2:∀ k,aF Tryz.prog final_Outcomes.f [ops l,.agg (m).cells] [] k 0 (aY (kD l (jo l (m)) (fJ l))) []:=yE l hl80 hrow m;have hV2:∀ d,d∈jo l st→d∈jo l m:=fun d h=>B7 hmono h
 have hO2:∀ d,d∈kD l (jo l st) (fJ l)→d∈jo l st∧d∈kD l (jo l m) (fJ l):=fun d h=>zL hV2 h
 have hVl:=tL l st;have hV2l:=tL l m;have hV3l:=tL l (fV l);have hOl:=vr l (jo l st) (fJ l);have hO2l:=vr l (jo l m) (fJ l);have hWV:∀ x,x∈l→∀ k,aF Tryz.prog final_Waits.f [ops l,.agg st.cells,.agg x.dot.cells] [] k 0 (.dU [aY (cA l st x.dot),.d (.int .i64 0)]) []:=fun x hx k=>by
  have:=B5 hl80 hrow st x.dot k;have hf:(bB l x.dot).isSome=true:=wF.1 (Dt.mem_set.2 (List.mem_map.2 ⟨x,hx,rfl⟩));unfold Fm Fo at this;rw [hf] at this;exact this
 have hWz:∀ x,x∈l→(((cA l st x.dot).length:Int) == 0)=decide (x.dot∈jo l st):=fun x hx=>by
  rw [Bool.eq_iff_iff,decide_eq_true_eq,qu,beq_iff_eq];have hd:x.dot∈fJ l:=Dt.mem_set.2 (List.mem_map.2 ⟨x,hx,rfl⟩);rw [← List.length_eq_zero_iff];constructor
  ·intro h;exact ⟨hd,by omega⟩
  ·rintro ⟨_,h⟩;omega
 generalize kD l (jo l st) (fJ l)=O at cO hO2 hOl;generalize kD l (jo l m) (fJ l)=O2 at cO2 hO2 hO2l;generalize jo l st=V at cV hV2 hO2 hVl hOl hWz;generalize jo l m=V2 at cV2 hV2 hV2l hO2l;generalize jo l (fV l)=V3 at cV3 hKa hV3l;generalize fV l=kn at cKn cV3;refine SW.seq ?_;have cz:=And.intro cV (And.intro cMg (And.intro cV2 (And.intro cKn (And.intro cV3 True.intro))));refine SW.gM [0,1,2,4,5,6,7,8,9,10,11,12,13,14,15,16,17,24,29,38,65,74,78,96,100,138] mixed af cz ?_;refine SW.seq ?_;refine SW.g4 [0,1,2,4,5,6,7,8,9,10,11,12,13,14,15,16,17,24,29,38,65,74,78,96,100,138] mixed af cO cMg cO2 trivial ?_;refine SW.seq (SW.seq ?_);refine SW.g0 [0,1,2,4,5,6,7,8,9,10,11,12,13,14,15,16,17,24,29,38,65,74,78,96,100,138] mixed af ?_;refine SW.block ?_;refine SW.lD (α:={i:Nat // i≤V.length}) (fun i=>⟨[(13,i64 i.1),(12,aY O2),(11,aY O),(10,aY V3),(9,aY V2),(8,aY V),(4,.ptr 0 0),(0,ops l)],[(0,.box 39 st.cells)],1⟩) (fun i=>V.length - i.1) ⟨0,by omega⟩ id af (round:= ?_)
 rintro ⟨i,hi⟩;dsimp only
 by_cases h:i<V.length
 ·obtain ⟨x,hx⟩:=bF h
  have h1:decide ((i:Int)<V.length)=true:=by simp only [decide_eq_true_eq];omega
  have e2:IntKind.i64.wrap ((i:Int)+1)=((i+1:Nat):Int):=wrap_i64 _ (by omega)
  have cI:=th V2 x (by omega)
  rw [decide_eq_true (hV2 x (List.mem_of_getElem? hx))] at cI;refine SW.seq (SW.seq ?_);refine SW.g0 [0,1,2,4,5,6,7,8,9,10,11,12,13,14,15,16,17,24,29,38,65,74,78,96,100,138] mixed (h1) ?_;refine SW.au rfl (SW.skip ?_);refine SW.seq (SW.block (SW.seq ?_));refine SW.g1 [0,1,2,4,5,6,7,8,9,10,11,12,13,14,15,16,17,24,29,38,65,74,78,96,100,138] mixed (fS hx) cI ?_;refine SW.aq rfl (SW.skip ?_);refine SW.g0 [0,1,2,4,5,6,7,8,9,10,11,12,13,14,15,16,17,24,29,38,65,74,78,96,100,138] mixed (e2) ?_;exact ⟨⟨i+1,by omega⟩,id,by show V.length - (i+1)<_;omega,aM.mk af⟩
 have h1:decide ((i:Int)<V.length)=false:=by simp only [decide_eq_false_iff_not];omega
 refine SW.seq (SW.seq ?_);refine SW.g0 [0,1,2,4,5,6,7,8,9,10,11,12,13,14,15,16,17,24,29,38,65,74,78,96,100,138] mixed (h1) ?_;refine SW.aq rfl (SW.exit ?_);refine (?_:Sl.SW _ _ _ _ _ _);refine SW.seq (SW.seq ?_);refine SW.g0 [0,1,2,4,5,6,7,8,9,10,11,12,13,14,15,16,17,24,29,38,65,74,78,96,100,138] mixed af ?_;refine SW.block ?_;refine SW.lD (α:={i:Nat // i≤O.length}) (fun i=>⟨[(14,i64 i.1),(12,aY O2),(11,aY O),(10,aY V3),(8,aY V),(4,.ptr 0 0),(0,ops l)],[(0,.box 39 st.cells)],1⟩) (fun i=>O.length - i.1) ⟨0,by omega⟩ id af (round:= ?_)
 rintro ⟨i,hi⟩;dsimp only
 by_cases h:i<O.length
 ·obtain ⟨x,hx⟩:=bF h
  have h1:decide ((i:Int)<O.length)=true:=by simp only [decide_eq_true_eq];omega
  have e2:IntKind.i64.wrap ((i:Int)+1)=((i+1:Nat):Int):=wrap_i64 _ (by omega)
  have cI:=th V x (by omega)
  rw [decide_eq_true (hO2 x (List.mem_of_getElem? hx)).1] at cI;have cJ:=th O2 x (by omega)
  rw [decide_eq_true (hO2 x (List.mem_of_getElem? hx)).2] at cJ;refine SW.seq (SW.seq ?_);refine SW.g0 [0,1,2,4,5,6,7,8,9,10,11,12,13,14,15,16,17,24,29,38,65,74,78,96,100,138] mixed (h1) ?_;refine SW.au rfl (SW.skip ?_);refine SW.seq (SW.block (SW.seq ?_));refine SW.g2 [0,1,2,4,5,6,7,8,9,10,11,12,13,14,15,16,17,24,29,38,65,74,78,96,100,138] mixed (fS hx) cI cJ ?_;refine SW.aq rfl (SW.skip ?_);refine SW.g0 [0,1,2,4,5,6,7,8,9,10,11,12,13,14,15,16,17,24,29,38,65,74,78,96,100,138] mixed (e2) ?_;exact ⟨⟨i+1,by omega⟩,id,by show O.length - (i+1)<_;omega,aM.mk af⟩
 have h1:decide ((i:Int)<O.length)=false:=by simp only [decide_eq_false_iff_not];omega
 refine SW.seq (SW.seq ?_);refine SW.g0 [0,1,2,4,5,6,7,8,9,10,11,12,13,14,15,16,17,24,29,38,65,74,78,96,100,138] mixed (h1) ?_;refine SW.aq rfl (SW.exit ?_);refine (?_:Sl.SW _ _ _ _ _ _);refine SW.seq (SW.seq ?_);refine SW.g0 [0,1,2,4,5,6,7,8,9,10,11,12,13,14,15,16,17,24,29,38,65,74,78,96,100,138] mixed af ?_;refine SW.block ?_;refine SW.lD (α:={i:Nat // i≤l.length}) (fun i=>⟨[(15,i64 i.1),(10,aY V3),(8,aY V),(4,.ptr 0 0),(0,ops l)],[(0,.box 39 st.cells)],1⟩) (fun i=>l.length - i.1) ⟨0,by omega⟩ id af (round:= ?_)
 rintro ⟨i,hi⟩;dsimp only
 by_cases h:i<l.length
 ·obtain ⟨x,hx⟩:=bF h
  have hxl:=List.mem_of_getElem? hx;have h1:decide ((i:Int)<l.length)=true:=by simp only [decide_eq_true_eq];omega
  have e2:IntKind.i64.wrap ((i:Int)+1)=((i+1:Nat):Int):=wrap_i64 _ (by omega)
  have cW:=hWV x hxl;have z:=hWz x hxl;have cI:=th V x.dot (by omega)
  have cK:=th V3 x.dot (by omega)
  rw [decide_eq_true (hKa x hxl)] at cK;generalize cA l st x.dot=W at cW z;generalize decide (x.dot∈V)=b at cI z;refine SW.seq (SW.seq ?_);refine SW.g0 [0,1,2,4,5,6,7,8,9,10,11,12,13,14,15,16,17,24,29,38,65,74,78,96,100,138] mixed (h1) ?_;refine SW.au rfl (SW.skip ?_);refine SW.seq (SW.block (SW.seq ?_));refine SW.g1 [0,1,2,4,5,6,7,8,9,10,11,12,13,14,15,16,17,24,29,38,65,74,78,96,100,138] mixed (And.intro (og hx) (lH hx)) cW ?_;refine SW.cut (stM:=⟨[(138,bl false),(15,i64 i),(10,aY V3),(8,aY V),(4,.ptr 0 0),(0,ops l)],[(0,.box 39 st.cells)],1⟩) id ?_ ?_
  ·cases b with
   | true=>
    refine SW.g2 [0,1,2,4,5,6,7,8,9,10,11,12,13,14,15,16,17,24,29,38,65,74,78,96,100,138] mixed (And.intro (og hx) (And.intro (lH hx) (z))) cI cK ?_;exact aM.mk af
   | false=>
    refine SW.g2 [0,1,2,4,5,6,7,8,9,10,11,12,13,14,15,16,17,24,29,38,65,74,78,96,100,138] mixed (And.intro (og hx) (And.intro (lH hx) (z))) cI cK ?_;exact aM.mk af
  refine SW.aq rfl (SW.skip ?_);refine SW.g0 [0,1,2,4,5,6,7,8,9,10,11,12,13,14,15,16,17,24,29,38,65,74,78,96,100,138] mixed (e2) ?_;exact ⟨⟨i+1,by omega⟩,id,by show l.length - (i+1)<_;omega,aM.mk af⟩
 have h1:decide ((i:Int)<l.length)=false:=by simp only [decide_eq_false_iff_not];omega
 refine SW.seq (SW.seq ?_);refine SW.g0 [0,1,2,4,5,6,7,8,9,10,11,12,13,14,15,16,17,24,29,38,65,74,78,96,100,138] mixed (h1) ?_;refine SW.aq rfl (SW.exit ?_);refine (?_:Sl.SW _ _ _ _ _ _);refine SW.seq ?_;refine SW.g1 [0,1,2,4,5,6,7,8,9,10,11,12,13,14,15,16,17,24,29,38,65,74,78,96,100,138] mixed af ja ?_;refine SW.ret ?_;exact End.mk [] (h4:=rfl)
end
end Go.Proofs.YtaelhkkjgfobhaaGreat
