/-
 Trees of credentials: what stands below them: orders of dots, what vectors cover, what is found in rows.
-/
import Derived.Test.YtaelhkkjgfobhaaGreatK6
import Derived.Test.YtaelhkkjgfobhaaGreatKV
import Derived.Test.YtaelhkkjgfobhaaGreatK5
import Derived.Test.YtaelhkkjgfobhaaGreatK4
set_option linter.unusedSectionVars false
set_option linter.unusedVariables false
set_option linter.unusedSimpArgs false
namespace Go.Proofs.YtaelhkkjgfobhaaGreat
open Go.Sl Go.Proofs
section
attribute [local irreducible] SW RW aM SC ak au
def fM (a b:Int):Int:=if a<b then -1 else if a>b then 1 else 0
theorem HA (r n:Int):Go.Sl.Pure Tryz.prog dot_May.f [.agg [.d (.int .u8 r),.d (.int .u32 n)]] (bl (decide (r<8) && decide (n>0))):=by
 refine dot_May.enter (by first | rfl | simp [SV.ok,SV.ay]) (by first | rfl | simp [Hp.ok,Ob.ok,SV.ok,SV.ay,aL.ai]) (by simp) ?_
 dsimp only [dot_May.s,Co.M,Co.G,Co.J,Co.H,Co.N,Co.F,Co.C,Co.Z,Co.B,Co.b8,Co.aB,Co.bL,Co.i6,Co.z8,Co.bU]
 rcases h1:decide (r<8) with _ | _
 ·(repeat (first | refine SW.seq ?_ | refine SW.block ?_ | refine SW.g0 [0,1,2] mixed (h1) ?_ | refine SW.skip ?_ | refine SW.exit ?_ | refine SW.ret ?_ | refine SW.ah rfl ?_ | refine SW.aj rfl ?_))
  exact End.mk [] (h4:=⟨rfl,rfl⟩)
 ·(repeat (first | refine SW.seq ?_ | refine SW.block ?_ | refine SW.g0 [0,1,2] mixed (h1) ?_ | refine SW.skip ?_ | refine SW.exit ?_ | refine SW.ret ?_ | refine SW.ah rfl ?_ | refine SW.aj rfl ?_))
  exact End.mk [] (h4:=⟨rfl,rfl⟩)
theorem Fj (r n:Int):Go.Sl.Pure Tryz.prog ref03_May.f [.agg [.d (.int .u8 r),.d (.int .u32 n)]] (bl (decide (r≤7) && decide (n≥1))):=by
 refine ref03_May.enter (by first | rfl | simp [SV.ok,SV.ay]) (by first | rfl | simp [Hp.ok,Ob.ok,SV.ok,SV.ay,aL.ai]) (by simp) ?_
 dsimp only [ref03_May.s,Co.M,Co.G,Co.J,Co.H,Co.N,Co.F,Co.C,Co.Z,Co.B,Co.b8,Co.aB,Co.bL,Co.i6,Co.z8,Co.bU]
 rcases h1:decide (r≤7) with _ | _
 ·(repeat (first | refine SW.seq ?_ | refine SW.block ?_ | refine SW.g0 [0,1,2] mixed (h1) ?_ | refine SW.skip ?_ | refine SW.exit ?_ | refine SW.ret ?_ | refine SW.ah rfl ?_ | refine SW.aj rfl ?_))
  exact End.mk [] (h4:=⟨rfl,rfl⟩)
 ·(repeat (first | refine SW.seq ?_ | refine SW.block ?_ | refine SW.g0 [0,1,2] mixed (h1) ?_ | refine SW.skip ?_ | refine SW.exit ?_ | refine SW.ret ?_ | refine SW.ah rfl ?_ | refine SW.aj rfl ?_))
  exact End.mk [] (h4:=⟨rfl,rfl⟩)
theorem vY (d:Dt)(k:Nat):aM Tryz.prog dot_May.f [.agg d.cells] [] k 0 (bl d.may) []:=by
 have:=(HA d.r d.n).sc rfl k
 have e:d.may=(decide ((d.r:Int)<8) && decide ((d.n:Int)>0)):=by
  unfold Dt.may
  rw [Bool.eq_iff_iff];simp only [Bool.and_eq_true,decide_eq_true_eq];omega
 rw [e];exact this
theorem sg (d:Dt)(k:Nat):aM Tryz.prog ref03_May.f [.agg d.cells] [] k 0 (bl d.may) []:=by
 have:=(Fj d.r d.n).sc rfl k
 have e:d.may=(decide ((d.r:Int)≤7) && decide ((d.n:Int)≥1)):=by
  unfold Dt.may
  rw [Bool.eq_iff_iff];simp only [Bool.and_eq_true,decide_eq_true_eq];omega
 rw [e];exact this
theorem AN (v:aL)(d:Dt):Go.Sl.Pure Tryz.prog vector_Covers.f [.agg v.cells,.agg d.cells] (bl (v.bB d)):=by
 refine vector_Covers.enter (by first | rfl | simp [SV.ok,SV.ay]) (by first | rfl | simp [Hp.ok,Ob.ok,SV.ok,SV.ay,aL.ai]) (by simp) ?_
 dsimp only [vector_Covers.s,Co.M,Co.G,Co.J,Co.H,Co.N,Co.F,Co.C,Co.Z,Co.B,Co.b8,Co.aB,Co.bL,Co.i6,Co.z8,Co.bU]
 rcases h:d.may with _ | _
 ·(repeat (first | refine SW.seq ?_ | refine SW.block ?_ | (refine SW.dL [0,1,2,3,4] mixed ?_;(repeat (first | refine RW.ro (h) (h:= ?_) | refine RW.skip (h:= ?_) | refine RW.op (h) (h:= ?_) | refine RW.eF (h) (h:= ?_) | refine RW.bH (h:= ?_) | (refine RW.bJ (h:= ?_);(first | refine ak.mk (h) (hc:=vY _ _) (h:= ?_) | refine ak.mk (h) (hc:=sg _ _) (h:= ?_)))));refine RW.nil ⟨by kernel_rfl,au.mk (h:= ?_)⟩) | refine SW.skip ?_ | refine SW.exit ?_ | refine SW.ret ?_ | refine SW.ah rfl ?_ | refine SW.aj rfl ?_))
  have e:v.bB d=false:=by unfold aL.bB;rw [h];rfl
  exact End.mk [] (h4:=⟨by rw [e];rfl,rfl⟩)
 ·have hr:d.r<8:=by
   have:=h
   simp only [Dt.may,Bool.and_eq_true,decide_eq_true_eq] at this
   exact this.1
  have e:v.bB d=decide ((v.get d.r:Int)≥d.n):=by
   unfold aL.bB
   rw [h,Bool.true_and,Bool.eq_iff_iff];simp only [decide_eq_true_eq];omega
  (repeat (first | refine SW.seq ?_ | refine SW.block ?_ | (have fx:=(And.intro (h) (aL.gQ v hr));refine SW.dL [0,1,2,3,4] mixed ?_;(repeat (first | refine RW.ro fx (h:= ?_) | refine RW.skip (h:= ?_) | refine RW.op fx (h:= ?_) | refine RW.eF fx (h:= ?_) | refine RW.bH (h:= ?_) | (refine RW.bJ (h:= ?_);(first | refine ak.mk fx (hc:=vY _ _) (h:= ?_) | refine ak.mk fx (hc:=sg _ _) (h:= ?_)))));refine RW.nil ⟨by kernel_rfl,au.mk (h:= ?_)⟩) | refine SW.skip ?_ | refine SW.exit ?_ | refine SW.ret ?_ | refine SW.ah rfl ?_ | refine SW.aj rfl ?_))
  exact End.mk [] (h4:=⟨by rw [e];rfl,rfl⟩)
theorem yz (v:aL)(d:Dt):Go.Sl.Pure Tryz.prog ref04_Covers.f [.agg v.cells,.agg d.cells] (bl (v.bB d)):=by
 refine ref04_Covers.enter (by first | rfl | simp [SV.ok,SV.ay]) (by first | rfl | simp [Hp.ok,Ob.ok,SV.ok,SV.ay,aL.ai]) (by simp) ?_
 dsimp only [ref04_Covers.s,Co.M,Co.G,Co.J,Co.H,Co.N,Co.F,Co.C,Co.Z,Co.B,Co.b8,Co.aB,Co.bL,Co.i6,Co.z8,Co.bU]
 rcases h:d.may with _ | _
 ·(repeat (first | refine SW.seq ?_ | refine SW.block ?_ | (refine SW.dL [0,1,2,3,4] mixed ?_;(repeat (first | refine RW.ro (h) (h:= ?_) | refine RW.skip (h:= ?_) | refine RW.op (h) (h:= ?_) | refine RW.eF (h) (h:= ?_) | refine RW.bH (h:= ?_) | (refine RW.bJ (h:= ?_);(first | refine ak.mk (h) (hc:=vY _ _) (h:= ?_) | refine ak.mk (h) (hc:=sg _ _) (h:= ?_)))));refine RW.nil ⟨by kernel_rfl,au.mk (h:= ?_)⟩) | refine SW.skip ?_ | refine SW.exit ?_ | refine SW.ret ?_ | refine SW.ah rfl ?_ | refine SW.aj rfl ?_))
  have e:v.bB d=false:=by unfold aL.bB;rw [h];rfl
  exact End.mk [] (h4:=⟨by rw [e];rfl,rfl⟩)
 ·have hr:d.r<8:=by
   have:=h
   simp only [Dt.may,Bool.and_eq_true,decide_eq_true_eq] at this
   exact this.1
  have e:v.bB d=decide ((d.n:Int)≤v.get d.r):=by
   unfold aL.bB
   rw [h,Bool.true_and,Bool.eq_iff_iff];simp only [decide_eq_true_eq];omega
  (repeat (first | refine SW.seq ?_ | refine SW.block ?_ | (have fx:=(And.intro (h) (aL.gQ v hr));refine SW.dL [0,1,2,3,4] mixed ?_;(repeat (first | refine RW.ro fx (h:= ?_) | refine RW.skip (h:= ?_) | refine RW.op fx (h:= ?_) | refine RW.eF fx (h:= ?_) | refine RW.bH (h:= ?_) | (refine RW.bJ (h:= ?_);(first | refine ak.mk fx (hc:=vY _ _) (h:= ?_) | refine ak.mk fx (hc:=sg _ _) (h:= ?_)))));refine RW.nil ⟨by kernel_rfl,au.mk (h:= ?_)⟩) | refine SW.skip ?_ | refine SW.exit ?_ | refine SW.ret ?_ | refine SW.ah rfl ?_ | refine SW.aj rfl ?_))
  exact End.mk [] (h4:=⟨by rw [e];rfl,rfl⟩)
theorem vn (v:aL)(d:Dt)(k:Nat):aM Tryz.prog vector_Covers.f [.agg v.cells,.agg d.cells] [] k 0 (bl (v.bB d)) []:=(AN v d).sc rfl k
theorem tu (v:aL)(d:Dt)(k:Nat):aM Tryz.prog ref04_Covers.f [.agg v.cells,.agg d.cells] [] k 0 (bl (v.bB d)) []:=(yz v d).sc rfl k
theorem AO (a b:ag):Go.Sl.Pure Tryz.prog order_Before.f [.agg a.cells,.agg b.cells] (bl (a.before b)):=by
 refine order_Before.enter (by first | rfl | simp [SV.ok,SV.ay]) (by first | rfl | simp [Hp.ok,Ob.ok,SV.ok,SV.ay,aL.ai]) (by simp) ?_
 dsimp only [order_Before.s,Co.M,Co.G,Co.J,Co.H,Co.N,Co.F,Co.C,Co.Z,Co.B,Co.b8,Co.aB,Co.bL,Co.i6,Co.z8,Co.bU]
 (repeat (first | refine SW.seq ?_ | refine SW.block ?_ | (refine SW.dL [0,1,2,3,4] mixed ?_;(repeat (first | refine RW.ro af (h:= ?_) | refine RW.skip (h:= ?_) | refine RW.op af (h:= ?_) | refine RW.eF af (h:= ?_) | refine RW.bH (h:= ?_) | (refine RW.bJ (h:= ?_);(first | refine ak.mk af (hc:=vn _ _ _) (h:= ?_) | refine ak.mk af (hc:=tu _ _ _) (h:= ?_)))));refine RW.nil ⟨by kernel_rfl,au.mk (h:= ?_)⟩) | refine SW.skip ?_ | refine SW.exit ?_ | refine SW.ret ?_ | refine SW.ah rfl ?_ | refine SW.aj rfl ?_))
 exact End.mk [] (h4:=⟨rfl,rfl⟩)
theorem yA (a b:ag):Go.Sl.Pure Tryz.prog ref10_Before.f [.agg a.cells,.agg b.cells] (bl (a.before b)):=by
 refine ref10_Before.enter (by first | rfl | simp [SV.ok,SV.ay]) (by first | rfl | simp [Hp.ok,Ob.ok,SV.ok,SV.ay,aL.ai]) (by simp) ?_
 dsimp only [ref10_Before.s,Co.M,Co.G,Co.J,Co.H,Co.N,Co.F,Co.C,Co.Z,Co.B,Co.b8,Co.aB,Co.bL,Co.i6,Co.z8,Co.bU]
 (repeat (first | refine SW.seq ?_ | refine SW.block ?_ | (refine SW.dL [0,1,2,3,4] mixed ?_;(repeat (first | refine RW.ro af (h:= ?_) | refine RW.skip (h:= ?_) | refine RW.op af (h:= ?_) | refine RW.eF af (h:= ?_) | refine RW.bH (h:= ?_) | (refine RW.bJ (h:= ?_);(first | refine ak.mk af (hc:=vn _ _ _) (h:= ?_) | refine ak.mk af (hc:=tu _ _ _) (h:= ?_)))));refine RW.nil ⟨by kernel_rfl,au.mk (h:= ?_)⟩) | refine SW.skip ?_ | refine SW.exit ?_ | refine SW.ret ?_ | refine SW.ah rfl ?_ | refine SW.aj rfl ?_))
 exact End.mk [] (h4:=⟨rfl,rfl⟩)
theorem jH (a b:ag)(k:Nat):aM Tryz.prog order_Before.f [.agg a.cells,.agg b.cells] [] k 0 (bl (a.before b)) []:=(AO a b).sc rfl k
theorem oQ (a b:ag)(k:Nat):aM Tryz.prog ref10_Before.f [.agg a.cells,.agg b.cells] [] k 0 (bl (a.before b)) []:=(yA a b).sc rfl k
end
section
section
attribute [local irreducible] SW RW aM SC ak au
theorem xD:∀ (x y a b:SV),cU (cU [x,y] 0 [a]) 1 [b]=[a,b]:=fun _ _ _ _=>rfl
def Ci (a b:Dt):Int:=if fM a.r b.r=0 then fM a.n b.n else fM a.r b.r
theorem xE (a b:Dt)(ha:a.wf)(hb:b.wf):Go.Sl.Pure Tryz.prog ref03_Compare.f [.agg a.cells,.agg b.cells] (i64 (fM ((a.r:Int)*8589934592+a.n) ((b.r:Int)*8589934592+b.n))):=by
 obtain ⟨a1,a2⟩:=ha
 obtain ⟨b1,b2⟩:=hb
 refine ref03_Compare.enter (by first | rfl | simp [SV.ok,SV.ay]) (by first | rfl | simp [Hp.ok,Ob.ok,SV.ok,SV.ay,aL.ai]) (by simp) ?_
 dsimp only [ref03_Compare.s,Co.M,Co.G,Co.J,Co.H,Co.N,Co.F,Co.C,Co.Z,Co.B,Co.b8,Co.aB,Co.bL,Co.i6,Co.z8,Co.bU]
 generalize hx:(a.r:Int)*8589934592+a.n=x
 generalize hy:(b.r:Int)*8589934592+b.n=y
 rcases Int.lt_trichotomy x y with h | h | h
 ·have e1:decide (x<y)=true:=by simp [h]
  have e2:fM x y= -1:=by simp [fM,h]
  (repeat (first | refine SW.seq ?_ | refine SW.block ?_ | refine SW.g0 [0,1,2,3,4,5,6,25,28] mixed (And.intro (hx) (And.intro (hy) (e1))) ?_ | refine SW.skip ?_ | refine SW.exit ?_ | refine SW.ret ?_ | refine SW.ah rfl ?_ | refine SW.aj rfl ?_))
  exact End.mk [] (h4:=⟨by rw [e2];rfl,rfl⟩)
 ·have e1:decide (x<y)=false:=by simp [h]
  have e3:decide (x>y)=false:=by simp [h]
  have e2:fM x y=0:=by simp [fM,h]
  (repeat (first | refine SW.seq ?_ | refine SW.block ?_ | refine SW.g0 [0,1,2,3,4,5,6,25,28] mixed (And.intro (hx) (And.intro (hy) (And.intro (e1) (e3)))) ?_ | refine SW.skip ?_ | refine SW.exit ?_ | refine SW.ret ?_ | refine SW.ah rfl ?_ | refine SW.aj rfl ?_))
  exact End.mk [] (h4:=⟨by rw [e2];rfl,rfl⟩)
 ·have e1:decide (x<y)=false:=by simp;omega
  have e3:decide (x>y)=true:=by simp [h]
  have e2:fM x y=1:=by unfold fM;rw [if_neg (by omega),if_pos h]
  (repeat (first | refine SW.seq ?_ | refine SW.block ?_ | refine SW.g0 [0,1,2,3,4,5,6,25,28] mixed (And.intro (hx) (And.intro (hy) (And.intro (e1) (e3)))) ?_ | refine SW.skip ?_ | refine SW.exit ?_ | refine SW.ret ?_ | refine SW.ah rfl ?_ | refine SW.aj rfl ?_))
  exact End.mk [] (h4:=⟨by rw [e2];rfl,rfl⟩)
theorem Fk (a b:Dt)(ha:a.wf)(hb:b.wf):fM ((a.r:Int)*8589934592+a.n) ((b.r:Int)*8589934592+b.n)=Ci a b:=by
 obtain ⟨a1,a2⟩:=ha
 obtain ⟨b1,b2⟩:=hb
 unfold Ci fM
 repeat' split
 all_goals omega
theorem xF (a b:Dt)(ha:a.wf)(hb:b.wf)(k:Nat):aM Tryz.prog ref03_Compare.f [.agg a.cells,.agg b.cells] [] k 0 (.d (.int .i64 (Ci a b))) []:=by
 have:=(xE a b ha hb).sc rfl k
 rwa [Fk a b ha hb] at this
theorem Fl (l m:List Dt)(hl:l.length<4611686018427387904)(hm:m.length<4611686018427387904):Go.Sl.Pure Tryz.prog ref03_Same.f [bS l,bS m] (bl (decide (l=m))):=by
 refine ref03_Same.enter (by first | rfl | simp [SV.ok,SV.ay]) (by first | rfl | simp [Hp.ok,Ob.ok,SV.ok,SV.ay,aL.ai]) (by simp) ?_
 dsimp only [ref03_Same.s,Co.M,Co.G,Co.J,Co.H,Co.N,Co.F,Co.C,Co.Z,Co.B,Co.b8,Co.aB,Co.bL,Co.i6,Co.z8,Co.bU]
 by_cases hn:l.length=m.length
 ·have h0:(((l.length:Nat):Int) != ((m.length:Nat):Int))=false:=by simp;omega
  (repeat (first | refine SW.seq ?_ | refine SW.block ?_ | refine SW.g0 [0,1,4,5,10,14,25] mixed (h0) ?_ | refine SW.skip ?_ | refine SW.exit ?_ | refine SW.ret ?_ | refine SW.ah rfl ?_ | refine SW.aj rfl ?_))
  refine SW.gR (α:={i:Nat // i≤l.length∧∀ j,j<i→l[j]? =m[j]?}) (fun i=>⟨[(5,i64 i.1),(0,bS l),(1,bS m)],[],0⟩) (fun i=>l.length - i.1) ⟨0,by omega,by omega⟩ id af (round:= ?_)
  rintro ⟨i,hi,hs⟩
  by_cases h:i<l.length
  ·have h1:decide ((i:Int)<l.length)=true:=by simp only [decide_eq_true_eq];omega
   obtain ⟨x,hx⟩:=br h
   obtain ⟨y,hy⟩:=br (show i<m.length by omega)
   have e2:IntKind.i64.wrap ((i:Int)+1)=((i+1:Nat):Int):=wrap_i64 _ (by omega)
   by_cases he:x=y
   ·have e3:decide (x=y)=true:=by simp [he]
    (repeat (first | refine SW.seq ?_ | refine SW.block ?_ | refine SW.g0 [0,1,4,5,10,14,25] mixed (And.intro (h1) (And.intro (gI hx) (And.intro (gI hy) (And.intro (e2) (e3))))) ?_ | refine SW.skip ?_ | refine SW.exit ?_ | refine SW.ret ?_ | refine SW.ah rfl ?_ | refine SW.aj rfl ?_))
    refine Next.mk ⟨i+1,by omega,fun j hj=> ?_⟩ id af
    by_cases e:j=i
    ·rw [e,hx,hy,he]
    ·exact hs j (by omega)
   ·have e3:decide (x=y)=false:=by simp [he]
    (repeat (first | refine SW.seq ?_ | refine SW.block ?_ | refine SW.g0 [0,1,4,5,10,14,25] mixed (And.intro (h1) (And.intro (gI hx) (And.intro (gI hy) (And.intro (e2) (e3))))) ?_ | refine SW.skip ?_ | refine SW.exit ?_ | refine SW.ret ?_ | refine SW.ah rfl ?_ | refine SW.aj rfl ?_))
    have:l≠m:=fun e=>by rw [e,hy] at hx;injection hx with hx;exact he hx.symm
    exact End.mk [] (h4:=⟨by simp [eP,this],rfl⟩)
  ·have h1:decide ((i:Int)<l.length)=false:=by simp only [decide_eq_false_iff_not];omega
   (repeat (first | refine SW.seq ?_ | refine SW.block ?_ | refine SW.g0 [0,1,4,5,10,14,25] mixed (h1) ?_ | refine SW.skip ?_ | refine SW.exit ?_ | refine SW.ret ?_ | refine SW.ah rfl ?_ | refine SW.aj rfl ?_))
   have:l=m:=B0 hn fun j hj=>hs j (by omega)
   exact End.mk [] (h4:=⟨by simp [eP,this],rfl⟩)
 ·have h0:(((l.length:Nat):Int) != ((m.length:Nat):Int))=true:=by simp;omega
  (repeat (first | refine SW.seq ?_ | refine SW.block ?_ | refine SW.g0 [0,1,4,5,10,14,25] mixed (h0) ?_ | refine SW.skip ?_ | refine SW.exit ?_ | refine SW.ret ?_ | refine SW.ah rfl ?_ | refine SW.aj rfl ?_))
  have:l≠m:=fun e=>hn (by rw [e])
  exact End.mk [] (h4:=⟨by simp [eP,this],rfl⟩)
theorem zL (l m:List Dt)(hl:l.length<4611686018427387904)(hm:m.length<4611686018427387904)(k:Nat):aM Tryz.prog ref03_Same.f [bS l,bS m] [] k 0 (bl (decide (l=m))) []:=(Fl l m hl hm).sc rfl k
theorem yB {l:List ag}{d:Dt}{i:Nat}{x:ag}(hx:l[i]? =some x)(h:aD (l.take i) d=none):aD (l.take (i+1)) d=if x.dot=d then some x else none:=by
 unfold aD at*
 rw [f_ hx,List.find?_append,h]
 by_cases e:x.dot=d <;> simp [e]
theorem AP {l:List ag}{d:Dt}{i:Nat}{x:ag}(hx:l[i]? =some x)(h:aD (l.take i) d=none)(he:x.dot=d):aD l d=some x:=by
 unfold aD at*
 have hl:l=l.take i++x::l.drop (i+1):=by
  conv=>lhs;rw [← List.take_append_drop i l]
  congr 1
  rw [List.drop_eq_getElem_cons (bu hx)]
  congr 1
  rw [List.getElem?_eq_getElem (bu hx)] at hx
  injection hx
 rw [hl,List.find?_append,h]
 simp [he]
theorem gA {l:List ag}{i:Nat}{x:ag}(h:l[i]? =some x):List.take 2 (List.drop (i*29) (List.map SV.d (l.flatMap ag.ds)))=x.dot.cells:=by
 have:=zB h (j:=0) (n:=2) (by omega)
 rw [Nat.add_zero,List.drop_zero] at this
 rw [this];rfl
theorem fO {l:List ag}{i:Nat}{x:ag}(h:l[i]? =some x):(i*29+2≤(List.map SV.d (l.flatMap ag.ds)).length)=True:=eq_true (by
 have:=bu h
 rw [List.length_map,iX]
 omega)
theorem Fm (l:List ag)(hl:l.length<4611686018427387904)(d:Dt):Go.Sl.Pure Tryz.prog ref10_Find.f [ops l,.agg d.cells] (.dM [.agg ((aD l d).getD ag.zero).cells,bl (aD l d).isSome]):=by
 refine ref10_Find.enter (by first | rfl | simp [SV.ok,SV.ay]) (by first | rfl | simp [Hp.ok,Ob.ok,SV.ok,SV.ay,aL.ai]) (by simp) ?_
 dsimp only [ref10_Find.s,Co.M,Co.G,Co.J,Co.H,Co.N,Co.F,Co.C,Co.Z,Co.B,Co.b8,Co.aB,Co.bL,Co.i6,Co.z8,Co.bU]
 (repeat (first | refine SW.seq ?_ | refine SW.block ?_ | refine SW.g0 [0,1,3,4,5,6,10,19] mixed af ?_ | refine SW.skip ?_ | refine SW.exit ?_ | refine SW.ret ?_ | refine SW.ah rfl ?_ | refine SW.aj rfl ?_))
 refine SW.gR (α:={i:Nat // i≤l.length∧aD (l.take i) d=none}) (fun i=>⟨[(6,i64 i.1),(0,ops l),(3,.ptr 0 0),(4,.ptr 1 0)],[(1,.box 43 ag.zero.cells),(0,.box 37 d.cells)],2⟩) (fun i=>l.length - i.1) ⟨0,by omega,rfl⟩ id af (round:= ?_)
 rintro ⟨i,hi,hs⟩
 by_cases h:i<l.length
 ·have h1:decide ((i:Int)<l.length)=true:=by simp only [decide_eq_true_eq];omega
  obtain ⟨x,hx⟩:=br h
  have e2:IntKind.i64.wrap ((i:Int)+1)=((i+1:Nat):Int):=wrap_i64 _ (by omega)
  by_cases he:x.dot=d
  ·have e3:decide (x.dot=d)=true:=by simp [he]
   (repeat (first | refine SW.seq ?_ | refine SW.block ?_ | refine SW.g0 [0,1,3,4,5,6,10,19] mixed (And.intro (h1) (And.intro (gA hx) (And.intro (fO hx) (And.intro (eZ hx) (And.intro (bT hx) (And.intro (e2) (e3))))))) ?_ | refine SW.skip ?_ | refine SW.exit ?_ | refine SW.ret ?_ | refine SW.ah rfl ?_ | refine SW.aj rfl ?_))
   have hf:=AP hx hs he
   rw [hf]
   exact End.mk [] (h4:=⟨rfl,rfl⟩)
  ·have e3:decide (x.dot=d)=false:=by simp [he]
   (repeat (first | refine SW.seq ?_ | refine SW.block ?_ | refine SW.g0 [0,1,3,4,5,6,10,19] mixed (And.intro (h1) (And.intro (gA hx) (And.intro (fO hx) (And.intro (e2) (e3))))) ?_ | refine SW.skip ?_ | refine SW.exit ?_ | refine SW.ret ?_ | refine SW.ah rfl ?_ | refine SW.aj rfl ?_))
   exact Next.mk ⟨i+1,by omega,by rw [yB hx hs,if_neg he]⟩ id af
 ·have h1:decide ((i:Int)<l.length)=false:=by simp only [decide_eq_false_iff_not];omega
  (repeat (first | refine SW.seq ?_ | refine SW.block ?_ | refine SW.g0 [0,1,3,4,5,6,10,19] mixed (h1) ?_ | refine SW.skip ?_ | refine SW.exit ?_ | refine SW.ret ?_ | refine SW.ah rfl ?_ | refine SW.aj rfl ?_))
  have hf:aD l d=none:=by rwa [List.take_of_length_le (by omega)] at hs
  rw [hf]
  exact End.mk [] (h4:=⟨rfl,rfl⟩)
theorem vZ (l:List ag)(hl:l.length<4611686018427387904)(d:Dt)(k:Nat):aM Tryz.prog ref10_Find.f [ops l,.agg d.cells] [] k 0 (.dM [.agg ((aD l d).getD ag.zero).cells,bl (aD l d).isSome]) []:=(Fm l hl d).sc rfl k
end
end
section
section
attribute [local irreducible] SW RW aM SC ak au
def Cj (o:ag):Nat:=match o.lines with
 | .sl n _=>n
 | _=>0
def Jn (o:ag):Prop:=∃ n cs,o.lines= .sl n cs∧n≤9223372036854775807
def j5 (l:List ag):Nat→Int
 | 0=>0
 | i+1=>IntKind.i64.wrap (j5 l i+((l[i]?).map Cj).getD 0)
def jS (l:List ag):Bool:=decide (l.length>80) || decide (j5 l (min l.length 100)>300)
theorem Ck {l:List ag}{i:Nat}{x:ag}(h:l[i]? =some x):(List.map SV.d (l.flatMap ag.ds))[i*29+28]? =some (.d x.lines):=by rw [B2 h (by omega)];rfl
theorem Cl (l:List ag)(hl:∀ x,x∈l→Jn x)(hlen:l.length≤9223372036854775807):Go.Sl.Pure Tryz.prog ref10_Great.f [ops l] (bl (jS l)):=by
 refine ref10_Great.enter (by first | rfl | simp [SV.ok,SV.ay]) (by first | rfl | simp [Hp.ok,Ob.ok,SV.ok,SV.ay,aL.ai]) (by simp) ?_
 dsimp only [ref10_Great.s,Co.M,Co.G,Co.J,Co.H,Co.N,Co.F,Co.C,Co.Z,Co.B,Co.b8,Co.aB,Co.bL,Co.i6,Co.z8,Co.bU]
 (repeat (first | refine SW.seq ?_ | refine SW.block ?_ | refine SW.g0 [0,2,3,4,12] mixed af ?_ | refine SW.skip ?_ | refine SW.exit ?_ | refine SW.ret ?_ | refine SW.ah rfl ?_ | refine SW.aj rfl ?_))
 refine SW.gR (α:={i:Nat // i≤l.length∧i≤100}) (fun i=>⟨[(4,i64 i.1),(0,ops l),(3,i64 (j5 l i.1))],[],0⟩) (fun i=>100 - i.1) ⟨0,by omega,by omega⟩ id (show j5 l 0=0 from rfl) (round:= ?_)
 rintro ⟨i,hi,hi2⟩
 by_cases h:i<l.length
 ·have h1:decide ((i:Int)<l.length)=true:=by simp only [decide_eq_true_eq];omega
  by_cases h2:i<100
  ·have h3:decide ((i:Int)<100)=true:=by simp only [decide_eq_true_eq];omega
   obtain ⟨x,hx⟩:=br h
   obtain ⟨n,cs,hx1,hx2⟩:=hl x (List.mem_of_getElem? hx)
   have e2:IntKind.i64.wrap ((i:Int)+1)=((i+1:Nat):Int):=wrap_i64 _ (by omega)
   have e3:IntKind.i64.wrap (j5 l i+(n:Int))=j5 l (i+1):=by simp [j5,hx,Cj,hx1]
   (repeat (first | refine SW.seq ?_ | refine SW.block ?_ | refine SW.g0 [0,2,3,4,12] mixed (And.intro (h1) (And.intro (h3) (And.intro (Ck hx) (And.intro (hx1) (And.intro (e2) (e3)))))) ?_ | refine SW.skip ?_ | refine SW.exit ?_ | refine SW.ret ?_ | refine SW.ah rfl ?_ | refine SW.aj rfl ?_))
   exact Next.mk ⟨i+1,by omega,by omega⟩ id af
  ·have h3:decide ((i:Int)<100)=false:=by simp only [decide_eq_false_iff_not];omega
   have h4:decide ((l.length:Int)>80)=true:=by simp only [decide_eq_true_eq];omega
   (repeat (first | refine SW.seq ?_ | refine SW.block ?_ | refine SW.g0 [0,2,3,4,12] mixed (And.intro (h1) (And.intro (h3) (h4))) ?_ | refine SW.skip ?_ | refine SW.exit ?_ | refine SW.ret ?_ | refine SW.ah rfl ?_ | refine SW.aj rfl ?_))
   have:jS l=true:=by unfold jS;rw [show decide (l.length>80)=true by simp;omega];rfl
   exact End.mk [] (h4:=⟨by rw [this];rfl,rfl⟩)
 ·have h1:decide ((i:Int)<l.length)=false:=by simp only [decide_eq_false_iff_not];omega
  have e:min l.length 100=i:=by omega
  rcases h4:decide ((l.length:Int)>80) with _ | _
  ·(repeat (first | refine SW.seq ?_ | refine SW.block ?_ | refine SW.g0 [0,2,3,4,12] mixed (And.intro (h1) (h4)) ?_ | refine SW.skip ?_ | refine SW.exit ?_ | refine SW.ret ?_ | refine SW.ah rfl ?_ | refine SW.aj rfl ?_))
   have:jS l=decide (j5 l i>300):=by
    unfold jS;rw [e,show decide (l.length>80)=false by simp at h4 ⊢;omega];rfl
   exact End.mk [] (h4:=⟨by rw [this];rfl,rfl⟩)
  ·(repeat (first | refine SW.seq ?_ | refine SW.block ?_ | refine SW.g0 [0,2,3,4,12] mixed (And.intro (h1) (h4)) ?_ | refine SW.skip ?_ | refine SW.exit ?_ | refine SW.ret ?_ | refine SW.ah rfl ?_ | refine SW.aj rfl ?_))
   have:jS l=true:=by unfold jS;rw [show decide (l.length>80)=true by simp at h4 ⊢;omega];rfl
   exact End.mk [] (h4:=⟨by rw [this];rfl,rfl⟩)
theorem Cn (l:List ag)(hl:∀ x,x∈l→Jn x)(hlen:l.length≤9223372036854775807)(k:Nat):aM Tryz.prog ref10_Great.f [ops l] [] k 0 (bl (jS l)) []:=(Cl l hl hlen).sc rfl k
theorem AQ {l:List ag}(h:jS l=false):l.length≤80:=by
 unfold jS at h
 simp only [Bool.or_eq_false_iff,decide_eq_false_iff_not] at h
 omega
def hasB (r b:Nat):Bool:=decide (r / b % 2=1)
def jT (r o:Nat):Nat→Bool
 | 0=>true
 | i+1=>jT r o i && (!hasB r (2 ^ i) || hasB o (2 ^ i))
def v7 (r o:Nat):Bool:=decide (r≠0) && jT r o 8
theorem Cp (l:List ag)(hl:l.length<1000000000)(k:Nat):SB Tryz.prog slices_Clone_Lapi_Op_api_Op.f [ops l] [] k 2 (fun r F'=>r= .gs (k+1) l.length∧F'=[(k+1,.arr 43 29 l.length (iW l))]):=by
 refine slices_Clone_Lapi_Op_api_Op.enter (by first | rfl | simp [SV.ok,SV.ay]) (by first | rfl | simp [Hp.ok,Ob.ok,SV.ok,SV.ay,aL.ai]) (by simp) ?_
 dsimp only [slices_Clone_Lapi_Op_api_Op.s,Co.M,Co.G,Co.J,Co.H,Co.N,Co.F,Co.C,Co.Z,Co.B,Co.b8,Co.aB,Co.bL,Co.i6,Co.z8,Co.bU]
 refine SW.seq ?_
 refine SW.g0 [0,2,4] mixed af ?_
 refine SW.seq (SW.seq (SW.Jl (n:=l.length) (cs:=l.flatMap ag.ds) rfl ?_ fun h0=> ?_))
 ·refine SW.aj rfl (SW.skip ?_)
  refine (?_:Sl.SW _ _ _ _ _ _)
  refine SW.seq ?_
  have f1:=bA (show k≠k+1 by omega)
  refine SW.g0 [0,2,4] mixed (f1) ?_
  refine SW.ret ?_
  exact End.mk [(k+1,.arr 43 29 l.length (iW l))] (h3:=HSub.cons (by simp [aa]) (HSub.nil _)) (h4:=⟨rfl,rfl⟩) (h5:=by simp [eP,SV.ok]) (h6:=by simp [Hp.ok,Ob.ok,SV.bh])
 ·have hl0:l=[]:=List.eq_nil_of_length_eq_zero h0
  subst hl0
  refine SW.ah rfl (SW.seq ?_)
  refine SW.g0 [0,2,4] mixed af ?_
  refine SW.sW 2 43 29 rfl ?_
  refine SW.weak (fun n=>if n=k+1 then k else n) (st1:=⟨[(2,.gs (k+1) 0)],[(k+1,.arr 43 29 0 [])],k+2⟩) ?_ ?_
  ·refine ⟨by simp,fun n hn=>by simp;omega,?_,?_,?_⟩
   ·simp [aY,List.lookup,SV.aC,SV.ok]
   ·simp [uk,Ob.aC,Ob.ok,SV.aW,SV.ay,lk,List.lookup]
   ·simp [BV]
  refine SW.ret ?_
  exact End.mk [(k+1,.arr 43 29 0 [])] (h3:=fun _ _ h=>h) (h4:=⟨rfl,rfl⟩) (h5:=by simp [eP,SV.ok]) (h6:=by simp [Hp.ok,Ob.ok,SV.ay])
theorem Cq (l:List ag)(hl:l.length<1000000000)(k:Nat):aM Tryz.prog slices_Clone_Lapi_Op_api_Op.f [ops l] [] k 2 (.gs (k+1) l.length) [(k+1,.arr 43 29 l.length (iW l))]:=by
 unfold aM
 refine (Cp l hl k).here (fun _=>false) (fun n h=>by cases h) rfl rfl ?_
 rintro x F ⟨rfl,rfl⟩ _ _
 simp [SV.ok,Hp.ok,Ob.ok,SV.bh]
end
end
section
section
variable {σ:Type}
def e_ (step:σ→ag→σ×Bool):σ→List ag→Option Nat×σ
 | s,[]=>(none,s)
 | s,x::l=>if (step s x).2 then (some 0,(step s x).1) else ((e_ step (step s x).1 l).1.map (· +1),(e_ step (step s x).1 l).2)
def bG (step:σ→ag→σ×Bool):σ→List ag→List ag×σ
 | s,[]=>([],s)
 | s,x::l=>(if (step s x).2 then (bG step (step s x).1 l).1 else x::(bG step (step s x).1 l).1,(bG step (step s x).1 l).2)
theorem nU (step:σ→ag→σ×Bool):∀ (l:List ag) (s:σ),(bG step s l).1.length≤l.length
 | [],s=>Nat.le_refl _
 | x::l,s=>by
  have:=nU step l (step s x).1
  simp only [bG]
  split <;> simp <;> omega
theorem jP {step:σ→ag→σ×Bool}:∀ {l:List ag} {s:σ},(e_ step s l).1=none→bG step s l=(l,(e_ step s l).2)
 | [],s,_=>rfl
 | x ::l,s,h=>by
  simp only [e_] at h ⊢
  by_cases e:(step s x).2=true
  ·rw [if_pos e] at h;cases h
  ·rw [if_neg e] at h ⊢
   have h2:(e_ step (step s x).1 l).1=none:=by
    cases hh:(e_ step (step s x).1 l).1 with
    | none=>rfl
    | some i=>rw [hh] at h;cases h
   simp only [bG]
   rw [jP h2,if_neg e]
theorem xG {step:σ→ag→σ×Bool}:∀ {l:List ag} {s:σ} {i:Nat},(e_ step s l).1=some i→i<l.length∧bG step s l=(l.take i++(bG step (e_ step s l).2 (l.drop (i+1))).1,(bG step (e_ step s l).2 (l.drop (i+1))).2)
 | [],s,i,h=>by cases h
 | x ::l,s,i,h=>by
  simp only [e_] at h ⊢
  by_cases e:(step s x).2=true
  ·rw [if_pos e] at h ⊢
   injection h with h
   subst h
   simp [bG,e]
  ·rw [if_neg e] at h ⊢
   cases hh:(e_ step (step s x).1 l).1 with
   | none=>rw [hh] at h;cases h
   | some j=>
    rw [hh] at h
    injection h with h
    dsimp only at h
    subst h
    obtain ⟨h1,h2⟩:=xG hh
    refine ⟨by simp;omega,?_⟩
    simp only [bG]
    rw [h2,if_neg e]
    simp
structure vo (P:Program)(g:Nat)(first cap:List SV)(Fh:σ→Hp)(step:σ→ag→σ×Bool)(aX:Nat)(I:Nat→σ→Prop)(G:ag→Prop)(B:Nat):Prop where
 nd:∀ s,((Fh s).map (·.1)).Nodup
 nm:∀ s x,(Fh (step s x).1).map (·.1)=(Fh s).map (·.1)
 nx:∀ i s x,I i s→G x→i<B→I (i+1) (step s x).1
 ok:∀ s x q,(Fh s).ok q=true→(Fh (step s x).1).ok q=true
 call:∀ i s x k,I i s→G x→i<B→(Fh s).ok (fun n=>decide (n<k))=true→aM P g (first++[.agg x.cells]++cap) (Fh s) k aX (bl (step s x).2) (Fh (step s x).1)
 a1:∀ s q,(Fh s).ok q=true→SV.ay q first=true∧SV.ay q cap=true
end
section
attribute [local irreducible] SW RW aM SC ak au
variable {σ:Type} {g:Nat} {first cap:List SV} {Fh:σ→Hp} {step:σ→ag→σ×Bool} {aX:Nat} {I:Nat→σ→Prop} {G:ag→Prop} {B:Nat}
def Fo (o:Option Nat):SV:=match o with
 | some i=>i64 i
 | none=>i64 (-1)
structure kC (Fh:σ→Hp)(n k:Nat)(s0 s:σ):Prop where
 nm:(Fh s).map (·.1)=(Fh s0).map (·.1)
 ok:(Fh s).ok (fun n=>decide (n<k))=true
 no:lk (Fh s) n=none
theorem kC.mono {n k k':Nat}{s0 s:σ}(h:kC Fh n k s0 s)(hk:k≤k'):kC Fh n k' s0 s:=⟨h.nm,Hp.bE hk h.ok,h.no⟩
theorem kC.next (hd:vo Tryz.prog g first cap Fh step aX I G B){n k:Nat}{s0 s:σ}(h:kC Fh n k s0 s)(x:ag):kC Fh n k s0 (step s x).1:=
 ⟨(hd.nm s x).trans h.nm,hd.ok s x _ h.ok,oP (by rw [hd.nm s x];exact iQ h.no)⟩
theorem kC.AR {n k:Nat}{s0 s:σ}(h:kC Fh n k s0 s)(hn:n<k){e sz len:Nat}(ds:List DV):Hp.ok (fun n=>decide (n<k)) ((n,.arr e sz len (ds.map SV.d))::Fh s)=true:=av (by simpa using hn) (SV.bh _) h.ok
theorem kC.nd (hd:vo Tryz.prog g first cap Fh step aX I G B){n k:Nat}{s0 s:σ}(h:kC Fh n k s0 s)(o:Ob):(((n,o)::Fh s:Hp).map (·.1)).Nodup:=vX h.no (hd.nd s)
variable (hd:vo Tryz.prog g first cap Fh step aX I G B)
include hd in
set_option maxHeartbeats 1000000 in
theorem AS (l:List ag)(s0:σ)(hl:l.length<1000000000)(hB:l.length≤B)(hG:∀ x,x∈l→G x)(hI:I 0 s0)(n k:Nat)(hn:n<k)(h0:kC Fh n k s0 s0):
  SB Tryz.prog slices_IndexFunc_Lapi_Op_api_Op.f [.gs n l.length,.fn (.func g) first cap] ((n,.arr 43 29 l.length (iW l))::Fh s0) k (l.length*aX)
   (fun r F'=>r=Fo (e_ step s0 l).1∧F'=(n,.arr 43 29 l.length (iW l))::Fh (e_ step s0 l).2):=by
 obtain ⟨o1,o2⟩:=hd.a1 s0 _ h0.ok
 refine slices_IndexFunc_Lapi_Op_api_Op.enter (by simp [SV.ok,SV.ay,o1,o2,hn]) (h0.AR hn _) (by simp) ?_
 dsimp only [slices_IndexFunc_Lapi_Op_api_Op.s,Co.M,Co.G,Co.J,Co.H,Co.N,Co.F,Co.C,Co.Z,Co.B,Co.b8,Co.aB,Co.bL,Co.i6,Co.z8,Co.bU]
 refine SW.seq ?_
 refine SW.g0 [0,1,4,5,7,8,9,16] mixed af ?_
 refine SW.seq (SW.seq ?_)
 refine SW.g0 [0,1,4,5,7,8,9,16] mixed af ?_
 refine SW.block ?_
 refine SW.loop (α:={x:Nat×σ // x.1≤l.length∧I x.1 x.2∧kC Fh n (k+x.1*aX) s0 x.2∧e_ step s0 l=((e_ step x.2 (l.drop x.1)).1.map (· +x.1),(e_ step x.2 (l.drop x.1)).2)})
  (fun x=>⟨[(8,i64 x.1.1),(7,i64 l.length),(0,.gs n l.length),(1,.fn (.func g) first cap)],(n,.arr 43 29 l.length (iW l))::Fh x.1.2,k+x.1.1*aX⟩) (fun x=>l.length - x.1.1)
  ⟨(0,s0),by omega,hI,by simpa using h0,by simp⟩ id ?_ ?_
 ·exact aJ.same (by simp) (by simp [aY,List.lookup,SV.aC,SV.b_,SV.ok,o1,o2,hn]) (by simpa using h0.AR hn _) (aH (h0.nd hd _))
 rintro ⟨⟨i,s⟩,hi,hIs,hh,he⟩
 dsimp only at hi hIs hh he ⊢
 have hkk:k≤k+i*aX:=by omega
 by_cases h:i<l.length
 ·have h1:decide ((i:Int)<l.length)=true:=by simp only [decide_eq_true_eq];omega
  obtain ⟨x,hx⟩:=br h
  have hdr:l.drop i=x::l.drop (i+1):=by
   rw [List.drop_eq_getElem_cons h]
   rw [List.getElem?_eq_getElem h] at hx
   injection hx with hx
   rw [hx]
  have e2:IntKind.i64.wrap ((i:Int)+1)=((i+1:Nat):Int):=wrap_i64 _ (by omega)
  have hc:=hd.call i s x (k+i*aX) hIs (hG x (List.mem_of_getElem? hx)) (by omega) hh.ok
  have hs:HSub (Fh s) ((n,.arr 43 29 l.length (iW l))::Fh s):=pO hh.no fun _ _ h=>h
  have hm:dg (dh ((n,Ob.arr 43 29 l.length (iW l))::Fh s) (Fh (step s x).1) (Fh s)) (Fh (step s x).1)=(n,.arr 43 29 l.length (iW l))::Fh (step s x).1:=
   tn (pre:=[(n,.arr 43 29 l.length (iW l))]) (hd.nm s x).symm (hh.nd hd _)
  have hh2:=(hh.next hd x).mono (k':=k+i*aX+aX) (by omega)
  have hk2:k+i*aX+aX=k+(i+1)*aX:=by rw [Nat.succ_mul];omega
  rw [hdr] at he
  simp only [e_] at he
  refine SW.seq ?_
  refine SW.g0 [0,1,4,5,7,8,9,16] mixed (h1) ?_
  refine SW.seq (SW.ah rfl (SW.skip ?_))
  refine (?_:Sl.SW _ _ _ _ _ _)
  refine SW.seq (SW.block (SW.seq ?_))
  refine SW.g0 [0,1,4,5,7,8,9,16] mixed af ?_
  refine SW.seq ?_
  rcases hb:(step s x).2 with _ | _
  ·rw [hb] at hc
   refine SW.g1 [0,1,4,5,7,8,9,16] mixed (And.intro (eZ hx) (And.intro (bT hx) (hm))) (And.intro hs hc) ?_
   refine SW.aj rfl (SW.skip ?_)
   refine SW.g0 [0,1,4,5,7,8,9,16] mixed (e2) ?_
   rw [if_neg (by rw [hb];simp)] at he
   have hh3:kC Fh n (k+(i+1)*aX) s0 (step s x).1:=by rw [← hk2];exact hh2
   refine ⟨⟨(i+1,(step s x).1),by dsimp only;omega,hd.nx i s x hIs (hG x (List.mem_of_getElem? hx)) (by omega),hh3,?_⟩,id,by simp;omega,?_⟩
   ·rw [he]
    simp only [Option.map_map]
    congr 2
    funext j
    simp only [Function.comp]
    omega
   ·exact aJ.same (by simp) (by simp [aY,List.lookup,SV.aC,SV.b_,SV.ok];exact ⟨by omega,(hd.a1 s0 _ (Hp.bE (by omega) h0.ok)).1,(hd.a1 s0 _ (Hp.bE (by omega) h0.ok)).2⟩) (hh3.AR (by omega) _) (aH (hh3.nd hd _))
  ·rw [hb] at hc
   refine SW.g1 [0,1,4,5,7,8,9,16] mixed (And.intro (eZ hx) (And.intro (bT hx) (hm))) (And.intro hs hc) ?_
   refine SW.ah rfl (SW.seq ?_)
   have:k+i*aX+aX≤k+l.length*aX:=by
    have:=Nat.mul_le_mul_right aX (show i+1≤l.length by omega)
    omega
   refine SW.weak id (st1:=⟨[(5,i64 i)],(n,.arr 43 29 l.length (iW l))::Fh (step s x).1,k+l.length*aX⟩) (aJ.same (by simp) (by simp [aY,List.lookup,SV.aC,SV.ok]) ((hh2.mono this).AR (by omega) _) (aH (hh2.nd hd _))) ?_
   refine SW.g0 [0,1,4,5,7,8,9,16] mixed af ?_
   rw [if_pos (by rw [hb])] at he
   refine SW.ret ?_
   rw [he]
   exact End.mk ((n,.arr 43 29 l.length (iW l))::Fh (step s x).1) (h3:=fun _ _ h=>h) (h4:=⟨by simp [eP,Fo],rfl⟩) (h6:=(hh2.mono this).AR (by omega) _)
 ·have h1:decide ((i:Int)<l.length)=false:=by simp only [decide_eq_false_iff_not];omega
  have e:i=l.length:=by omega
  subst e
  rw [List.drop_length] at he
  refine SW.seq ?_
  refine SW.g0 [0,1,4,5,7,8,9,16] mixed (h1) ?_
  refine SW.seq (SW.aj rfl (SW.exit ?_))
  refine (?_:Sl.SW _ _ _ _ _ _)
  refine SW.seq ?_
  refine SW.g0 [0,1,4,5,7,8,9,16] mixed af ?_
  refine SW.ret ?_
  rw [he]
  exact End.mk ((n,.arr 43 29 l.length (iW l))::Fh s) (h3:=fun _ _ h=>h) (h4:=⟨rfl,rfl⟩) (h6:=(hh.mono (by omega)).AR (by omega) _)
include hd in
theorem v8 {q:Nat→Bool}:∀ (l:List ag) (s:σ),(Fh s).ok q=true→(Fh (e_ step s l).2).ok q=true
 | [],s,h=>h
 | x::l,s,h=>by
  simp only [e_]
  split
  ·exact hd.ok s x q h
  ·exact v8 l _ (hd.ok s x q h)
include hd in
theorem xH {q:Nat→Bool}:∀ (l:List ag) (s:σ),(Fh s).ok q=true→(Fh (bG step s l).2).ok q=true
 | [],s,h=>h
 | x::l,s,h=>xH l _ (hd.ok s x q h)
include hd in
theorem sk:∀ (l:List ag) (s:σ),(Fh (e_ step s l).2).map (·.1)=(Fh s).map (·.1)
 | [],s=>rfl
 | x::l,s=>by
  simp only [e_]
  split
  ·exact hd.nm s x
  ·exact (sk l _).trans (hd.nm s x)
include hd in
theorem Cs:∀ (l:List ag) (s:σ) (i:Nat),(∀ x,x∈l→G x)→i+l.length≤B→I i s→∀ j,(e_ step s l).1=some j→I (i+j+1) (e_ step s l).2
 | [],s,i,_,_,_,j,h=>by cases h
 | x ::l,s,i,hG,hB,hi,j,h=>by
  simp only [List.length_cons] at hB
  simp only [e_] at h ⊢
  by_cases e:(step s x).2=true
  ·rw [if_pos e] at h ⊢
   injection h with h;subst h
   exact hd.nx i s x hi (hG x (by simp)) (by omega)
  ·rw [if_neg e] at h ⊢
   cases hh:(e_ step (step s x).1 l).1 with
   | none=>rw [hh] at h;cases h
   | some q=>
    rw [hh] at h
    injection h with h
    dsimp only at h
    subst h
    have:=Cs l (step s x).1 (i+1) (fun y hy=>hG y (List.mem_cons_of_mem _ hy)) (by omega) (hd.nx i s x hi (hG x (by simp)) (by omega)) q hh
    rwa [show i+(q+1)+1=i+1+q+1 by omega]
theorem Ct {n:Nat}{s:σ}{o:Ob}(ho:∀ q,o.ok q=true)(lP:(Fh s).ok (fun m=>(lk (Fh s) m).isSome)=true)(hno:lk (Fh s) n=none):Hp.ok (fun m=>(lk ((n,o)::Fh s) m).isSome) ((n,o)::Fh s)=true:=by
 refine av (by simp [aa]) (ho _) (Hp.dy (fun m hm=> ?_) lP)
 rw [aa]
 split
 ·rfl
 ·exact hm
include hd in
theorem AT (l:List ag)(s0:σ)(hl:l.length<1000000000)(hB:l.length≤B)(hG:∀ x,x∈l→G x)(hI:I 0 s0)(n k:Nat)(hn:n<k)(h0:kC Fh n k s0 s0)(lP:(Fh s0).ok (fun m=>(lk (Fh s0) m).isSome)=true):
  aM Tryz.prog slices_IndexFunc_Lapi_Op_api_Op.f [.gs n l.length,.fn (.func g) first cap] ((n,.arr 43 29 l.length (iW l))::Fh s0) k (l.length*aX) (Fo (e_ step s0 l).1) ((n,.arr 43 29 l.length (iW l))::Fh (e_ step s0 l).2):=by
 unfold aM
 have hq:=Ct (n:=n) (o:= .arr 43 29 l.length (iW l)) (fun q=>SV.bh _) lP h0.no
 have hq0:(Fh s0).ok (fun m=>(lk ((n,Ob.arr 43 29 l.length (iW l))::Fh s0) m).isSome)=true:=by
  simp only [Hp.ok,List.all_cons,Bool.and_eq_true] at hq ⊢
  exact hq.2
 obtain ⟨o1,o2⟩:=hd.a1 s0 _ hq0
 refine (AS hd l s0 hl hB hG hI n k hn h0).here (fun m=>(lk ((n,Ob.arr 43 29 l.length (iW l))::Fh s0) m).isSome) (fun m h e=>by rw [e] at h;cases h) (by simp only [SV.ay,SV.ok,o1,o2,Bool.and_true];simp [aa]) hq ?_
 rintro x F ⟨rfl,rfl⟩ _ _
 refine ⟨by unfold Fo;split <;> rfl,?_⟩
 have:=v8 hd l s0 hq0
 exact av (by simp [aa]) (SV.bh _) (Hp.dy (fun m hm=>by rw [hm];rfl) this)
end
end
section
theorem Cu {α:Type}{l:List α}{w:Nat}{x:α}(h:w<l.length):(l.set w x).take (w+1)=l.take w++[x]:=by
 rw [f_ (x:=x) (by simp [h]),List.take_set_of_le (Nat.le_refl _)]
theorem set_drop {α:Type}{l:List α}{w j:Nat}{x:α}(h:w<j):(l.set w x).drop j=l.drop j:=by
 rw [List.drop_set_of_lt h]
theorem drop_cons {α:Type}{l:List α}{i:Nat}{x:α}(hx:l[i]? =some x):l.drop i=x::l.drop (i+1):=by
 have h:=bu hx
 rw [List.drop_eq_getElem_cons h]
 rw [List.getElem?_eq_getElem h] at hx
 injection hx with hx
 rw [hx]
theorem Cv {α:Type}{l m:List α}{j:Nat}{x:α}(h:l.drop j=m.drop j)(hx:m[j]? =some x):l[j]? =some x:=by
 have h1:(l.drop j)[0]? =l[j]? :=by simp
 have h2:(m.drop j)[0]? =m[j]? :=by simp
 rw [← h1,h,h2];exact hx
theorem AU {α:Type}{l m:List α}{j:Nat}(h:l.drop j=m.drop j):l.drop (j+1)=m.drop (j+1):=by
 have:∀ q:List α,q.drop (j+1)=(q.drop j).drop 1:=fun q=>by rw [List.drop_drop]
 rw [this,this,h]
theorem Cw (cur:List ag)(w m:Nat)(z:List SV)(hz:z.length=29)(hw:w+m=cur.length):(cU (iW cur) (w*29) ((List.replicate m z).flatten)).take (w*29)=iW (cur.take w):=by
 have hl:((List.replicate m z).flatten).length=m*29:=by simp [hz]
 have hc:(iW cur).length=cur.length*29:=by rw [List.length_map,iX]
 rw [qn (by rw [hl,hc,← hw,Nat.add_mul];exact Nat.le_refl _),List.append_assoc,List.take_append_of_le_length (by rw [List.length_take,hc,← hw,Nat.add_mul];omega),List.take_of_length_le (by rw [List.length_take];omega)]
 show ((cur.flatMap ag.ds).map SV.d).take (w*29)=_
 rw [← List.map_take]
 congr 1
 conv=>lhs;rw [← List.take_append_drop w cur]
 rw [List.flatMap_append,List.take_append_of_le_length,List.take_of_length_le]
 ·rw [iX,List.length_take];exact Nat.mul_le_mul_right 29 (Nat.min_le_left _ _)
 ·rw [iX,List.length_take,Nat.min_eq_left (by omega)];exact Nat.le_refl _
section
attribute [local irreducible] SW RW aM SC ak au
variable {σ:Type} {g:Nat} {first cap:List SV} {Fh:σ→Hp} {step:σ→ag→σ×Bool} {aX:Nat} {I:Nat→σ→Prop} {G:ag→Prop} {B:Nat}
variable (hd:vo Tryz.prog g first cap Fh step aX I G B)
include hd in
set_option maxHeartbeats 4000000 in
theorem yC (l : List ag)(s0:σ)(hl:l.length<1000000000)(hB:l.length≤B)(hG:∀ x,x∈l→G x)(hI:I 0 s0)(n k:Nat)(hn:n<k)(h0:kC Fh n k s0 s0)(lP:(Fh s0).ok (fun m=>(lk (Fh s0) m).isSome)=true):
    SB Tryz.prog slices_DeleteFunc_Lapi_Op_api_Op.f [.gs n l.length,.fn (.func g) first cap] ((n,.arr 43 29 l.length (iW l))::Fh s0) k (l.length*aX+l.length*(aX+1))
      (fun r F'=>r= .gs n (bG step s0 l).1.length∧F'=(n,.arr 43 29 (bG step s0 l).1.length (iW (bG step s0 l).1))::Fh (bG step s0 l).2):=by
  obtain ⟨o1,o2⟩:=hd.a1 s0 _ h0.ok
  have ok1:∀ kx,k≤kx→SV.ay (fun n=>decide (n<kx)) first=true∧SV.ay (fun n=>decide (n<kx)) cap=true:=fun kx hx=>hd.a1 s0 _ (Hp.bE hx h0.ok)
  refine slices_DeleteFunc_Lapi_Op_api_Op.enter (by simp [SV.ok,SV.ay,o1,o2,hn]) (h0.AR hn _) (by simp) ?_
  dsimp only [slices_DeleteFunc_Lapi_Op_api_Op.s,Co.M,Co.G,Co.J,Co.H,Co.N,Co.F,Co.C,Co.Z,Co.B,Co.b8,Co.aB,Co.bL,Co.i6,Co.z8,Co.bU]
  have hx:=AT hd l s0 hl hB hG hI n k hn h0 lP
  have hm0:dg (dh ((n,Ob.arr 43 29 l.length (iW l))::Fh s0) ((n,Ob.arr 43 29 l.length (iW l))::Fh (e_ step s0 l).2) (Fh s0)) (Fh (e_ step s0 l).2)=(n,Ob.arr 43 29 l.length (iW l))::Fh (e_ step s0 l).2:=
    vj (sk hd l s0).symm (h0.nd hd _)
  have h1s:kC Fh n k s0 (e_ step s0 l).2:=⟨sk hd l s0,v8 hd l s0 h0.ok,oP (by rw [sk hd l s0];exact iQ h0.no)⟩
  refine SW.seq ?_
  refine SW.g0 [0,1,4,5,6,7,12,19,29] mixed af ?_
  refine SW.seq ?_
  rcases hi:(e_ step s0 l).1 with _ | i
  · have hk:=jP hi
    rw [hi] at hx
    have hx:aM Tryz.prog slices_IndexFunc_Lapi_Op_api_Op.f [.gs n l.length,.fn (.func g) first cap] ((n,.arr 43 29 l.length (iW l))::Fh s0) k (l.length*aX) (.d (.int .i64 (-1))) ((n,.arr 43 29 l.length (iW l))::Fh (e_ step s0 l).2):=hx
    (refine SW.dL [0,1,4,5,6,7,12,19,29] mixed ?_;(repeat (first | refine RW.ro (hm0) (h:= ?_) | refine RW.skip (h:= ?_) | refine RW.op (hm0) (h:= ?_) | refine RW.eF (hm0) (h:= ?_) | refine RW.bH (h:= ?_) | (refine RW.bJ (h:= ?_);(first | refine ak.mk (hm0) (hs:=(fun _ _ h=>h)) (hc:=hx) (h:= ?_)))));refine RW.nil ⟨by kernel_rfl,au.mk (h:= ?_)⟩)
    refine SW.seq (SW.seq ?_)
    refine SW.g0 [0,1,4,5,6,7,12,19,29] mixed af ?_
    refine SW.ah rfl (SW.seq ?_)
    refine SW.weak id (st1:=⟨[(0,.gs n l.length)],(n,.arr 43 29 l.length (iW l))::Fh (e_ step s0 l).2,k+(l.length*aX+l.length*(aX+1))⟩) (aJ.same (by simp) (by simp [aY,List.lookup,SV.aC,SV.ok];omega) ((h1s.mono (by show k≤k+(l.length*aX+l.length*(aX+1));omega)).AR (by show n<k+(l.length*aX+l.length*(aX+1));omega) _) (aH (h1s.nd hd _))) ?_
    refine SW.g0 [0,1,4,5,6,7,12,19,29] mixed af ?_
    refine SW.ret ?_
    rw [hk]
    exact End.mk ((n,.arr 43 29 l.length (iW l))::Fh (e_ step s0 l).2) (h3:=fun _ _ h=>h) (h4:=⟨rfl,rfl⟩) (h5:=by simp [eP,SV.ok];omega) (h6:=(h1s.mono (by omega)).AR (by omega) _)
  · obtain ⟨hil,hk⟩:=xG hi
    have hI1:=Cs hd l s0 0 hG (by omega) hI i hi
    rw [hi] at hx
    have hx:aM Tryz.prog slices_IndexFunc_Lapi_Op_api_Op.f [.gs n l.length,.fn (.func g) first cap] ((n,.arr 43 29 l.length (iW l))::Fh s0) k (l.length*aX) (i64 i) ((n,.arr 43 29 l.length (iW l))::Fh (e_ step s0 l).2):=hx
    obtain ⟨s1,hs1⟩:∃ s1,(e_ step s0 l).2=s1:=⟨_,rfl⟩
    rw [hs1] at hx hm0 h1s hk hI1
    (refine SW.dL [0,1,4,5,6,7,12,19,29] mixed ?_;(repeat (first | refine RW.ro (hm0) (h:= ?_) | refine RW.skip (h:= ?_) | refine RW.op (hm0) (h:= ?_) | refine RW.eF (hm0) (h:= ?_) | refine RW.bH (h:= ?_) | (refine RW.bJ (h:= ?_);(first | refine ak.mk (hm0) (hs:=(fun _ _ h=>h)) (hc:=hx) (h:= ?_)))));refine RW.nil ⟨by kernel_rfl,au.mk (h:= ?_)⟩)
    have hne:((i:Int) == -1)=false:=by rw [beq_eq_false_iff_ne];omega
    refine SW.seq (SW.seq ?_)
    refine SW.g0 [0,1,4,5,6,7,12,19,29] mixed (hne) ?_
    refine SW.aj rfl (SW.skip ?_)
    refine (?_:Sl.SW _ _ _ _ _ _)
    have e1:IntKind.i64.wrap ((i:Int)+1)=((i+1:Nat):Int):=wrap_i64 _ (by omega)
    refine SW.seq (SW.seq ?_)
    refine SW.g0 [0,1,4,5,6,7,12,19,29] mixed (e1) ?_
    refine SW.block ?_
    let K0:=k+l.length*aX
    let Inv:Nat→Nat→List ag→σ→Prop:=fun j w cur s=>(j≤l.length∧w<j∧cur.length=l.length)∧cur.drop j=l.drop j∧I j s∧kC Fh n (K0+j*(aX+1)) s0 s∧bG step s0 l=(cur.take w++(bG step s (l.drop j)).1,(bG step s (l.drop j)).2)
    refine SW.loop (α:={x:Nat×Nat×List ag×σ // Inv x.1 x.2.1 x.2.2.1 x.2.2.2})
      (fun x=>⟨[(6,i64 x.1.1),(5,i64 x.1.2.1),(0,.gs n l.length),(1,.fn (.func g) first cap)],(n,.arr 43 29 l.length (iW x.1.2.2.1))::Fh x.1.2.2.2,K0+x.1.1*(aX+1)⟩) (fun x=>l.length - x.1.1)
      ⟨(i+1,i,l,s1),⟨by show i+1≤l.length;omega,by show i<i+1;omega,rfl⟩,rfl,by rw [Nat.zero_add] at hI1;exact hI1,h1s.mono (by show k≤k+l.length*aX+_;omega),hk⟩ id ?_ ?_
    · refine aJ.same (by show k≤k+l.length*aX+_;omega) (by simp [aY,List.lookup,SV.aC,SV.b_,SV.ok];exact ⟨by show n<k+l.length*aX+_;omega,ok1 _ (by show k≤k+l.length*aX+_;omega)⟩) ((h1s.mono (by show k≤k+l.length*aX+_;omega)).AR (by show n<k+l.length*aX+_;omega) _) (aH (h1s.nd hd _))
    rintro ⟨⟨j,w,cur,s⟩,⟨hj,hwj,hcl2⟩,hdr,hIs,hh,he⟩
    dsimp only at hj hwj hcl2 hdr hIs hh he ⊢
    have hKk:k≤K0+j*(aX+1):=by show k≤k+l.length*aX+_;omega
    obtain ⟨K,hK⟩:∃ K,K0+j*(aX+1)=K:=⟨_,rfl⟩
    have hK1:K0+(j+1)*(aX+1)=K+1+aX:=by rw [← hK,Nat.succ_mul];omega
    rw [hK] at hh hKk ⊢
    by_cases h:j<l.length
    · have h1 : decide ((j:Int)<l.length)=true:=by simp only [decide_eq_true_eq];omega
      obtain ⟨x,hxl⟩:=br h
      have hxc:cur[j]? =some x:=Cv hdr hxl
      have e2:IntKind.i64.wrap ((j:Int)+1)=((j+1:Nat):Int):=wrap_i64 _ (by omega)
      have e3:IntKind.i64.wrap ((w:Int)+1)=((w+1:Nat):Int):=wrap_i64 _ (by omega)
      have hGx:=hG x (List.mem_of_getElem? hxl)
      rw [drop_cons hxl] at he
      simp only [bG] at he
      have hfr:lk (Fh s) K=none:=Hp.out hh.ok (Nat.le_refl _)
      have hfr':List.lookup K (Fh s)=none:=hfr
      have f1:=bA (show K≠n by omega)
      have hh1:=hh.mono (k':=K+1) (by omega)
      have hc:=hd.call j s x (K+1) hIs hGx (by omega) hh1.ok
      have hs:HSub (Fh s) ((K,.box 43 x.cells)::(n,.arr 43 29 l.length (iW cur))::Fh s):=pO hfr (pO hh.no fun _ _ h=>h)
      have nq:(((K,Ob.box 43 x.cells)::(n,Ob.arr 43 29 l.length (iW cur))::Fh s:Hp).map (·.1)).Nodup:=vX (by rw [aa,if_neg (by omega)];exact hfr) (hh.nd hd _)
      have hm:dg (dh ((K,Ob.box 43 x.cells)::(n,Ob.arr 43 29 l.length (iW cur))::Fh s) (Fh (step s x).1) (Fh s)) (Fh (step s x).1)=(K,Ob.box 43 x.cells)::(n,.arr 43 29 l.length (iW cur))::Fh (step s x).1:=
        tn (pre:=[(K,.box 43 x.cells),(n,.arr 43 29 l.length (iW cur))]) (hd.nm s x).symm nq
      have hh2:kC Fh n (K0+(j+1)*(aX+1)) s0 (step s x).1:=by rw [hK1];exact (hh.next hd x).mono (by omega)
      have hfr2:List.lookup K (Fh (step s x).1)=none:=oP (by rw [hd.nm s x];exact iQ hfr)
      have hdr2:=AU hdr
      refine SW.seq (SW.seq ?_)
      refine SW.g0 [0,1,4,5,6,7,12,19,29] mixed (h1) ?_
      refine SW.ah rfl (SW.skip ?_)
      refine (?_:Sl.SW _ _ _ _ _ _)
      refine SW.seq (SW.block (SW.seq ?_))
      refine SW.g0 [0,1,4,5,6,7,12,19,29] mixed (And.intro (eZ hxc) (And.intro (bT hxc) (And.intro (hfr') (f1)))) ?_
      refine SW.seq ?_
      rcases hb:(step s x).2 with _ | _
      · rw [hb] at hc
        refine SW.g1 [0,1,4,5,6,7,12,19,29] mixed (hm) (And.intro hs hc) ?_
        refine SW.ah rfl (SW.seq ?_)
        have hs1:cU (List.map SV.d (cur.flatMap ag.ds)) (w*29) x.cells=List.map SV.d ((cur.set w x).flatMap ag.ds):=Hw x (by omega)
        have hs2:(w*29+29≤(List.map SV.d (cur.flatMap ag.ds)).length)=True:=eq_true (by rw [List.length_map,iX,hcl2];omega)
        refine SW.g0 [0,1,4,5,6,7,12,19,29] mixed (And.intro (hs1) (And.intro (hs2) (f1))) ?_
        refine SW.g0 [0,1,4,5,6,7,12,19,29] mixed (e3) ?_
        refine SW.g0 [0,1,4,5,6,7,12,19,29] mixed (e2) ?_
        rw [if_neg (by rw [hb];simp)] at he
        refine ⟨⟨(j+1,w+1,cur.set w x,(step s x).1),⟨by show j+1≤l.length;omega,by show w+1<j+1;omega,by simp [hcl2]⟩,by rw [set_drop (by omega)];exact hdr2,hd.nx j s x hIs hGx (by omega),hh2,?_⟩,id,by simp;omega,?_⟩
        · rw [he,Cu (by omega)];simp
        · exact aJ.same (by show k≤k+l.length*aX+_;omega) (by simp [aY,List.lookup,SV.aC,SV.b_,SV.ok];exact ⟨by show n<k+l.length*aX+_;omega,ok1 _ (by show k≤k+l.length*aX+_;omega)⟩) (hh2.AR (by show n<k+l.length*aX+_;omega) _) (fun y hy=>by
            rw [aa,if_neg ?_]
            · exact aH (hh2.nd hd _) y hy
            · intro e
              rcases List.mem_cons.1 hy with rfl | hy
              · dsimp only at e;omega
              · have:=qJ (aH (hd.nd _) y hy)
                rw [e] at this
                exact iQ hfr2 this)
      · rw [hb] at hc
        refine SW.g1 [0,1,4,5,6,7,12,19,29] mixed (hm) (And.intro hs hc) ?_
        refine SW.aj rfl (SW.skip ?_)
        refine SW.g0 [0,1,4,5,6,7,12,19,29] mixed (e2) ?_
        rw [if_pos (by rw [hb])] at he
        refine ⟨⟨(j+1,w,cur,(step s x).1),⟨by show j+1≤l.length;omega,by show w<j+1;omega,hcl2⟩,hdr2,hd.nx j s x hIs hGx (by omega),hh2,he⟩,id,by simp;omega,?_⟩
        exact aJ.same (by show k≤k+l.length*aX+_;omega) (by simp [aY,List.lookup,SV.aC,SV.b_,SV.ok];exact ⟨by show n<k+l.length*aX+_;omega,ok1 _ (by show k≤k+l.length*aX+_;omega)⟩) (hh2.AR (by show n<k+l.length*aX+_;omega) _) (fun y hy=>by
            rw [aa,if_neg ?_]
            · exact aH (hh2.nd hd _) y hy
            · intro e
              rcases List.mem_cons.1 hy with rfl | hy
              · dsimp only at e;omega
              · have:=qJ (aH (hd.nd _) y hy)
                rw [e] at this
                exact iQ hfr2 this)
    · have h1:decide ((j:Int)<l.length)=false:=by simp only [decide_eq_false_iff_not];omega
      have e:j=l.length:=by omega
      rw [e,List.drop_length] at he
      simp only [bG,List.append_nil] at he
      have hKe:K=k+(l.length*aX+l.length*(aX+1)):=by rw [← hK,e];show k+l.length*aX+_=_;omega
      rw [e] at h1
      refine SW.seq (SW.seq ?_)
      rw [e]
      refine SW.g0 [0,1,4,5,6,7,12,19,29] mixed (h1) ?_
      refine SW.aj rfl (SW.exit ?_)
      refine (?_:Sl.SW _ _ _ _ _ _)
      have e4:(w*29+(l.length - w)*29≤(List.map SV.d (cur.flatMap ag.ds)).length)=True:=eq_true (by
        rw [List.length_map,iX,hcl2,← Nat.add_mul]
        exact Nat.mul_le_mul_right 29 (by omega))
      refine SW.seq ?_
      refine SW.g0 [0,1,4,5,6,7,12,19,29] mixed (e4) ?_
      have hz:(ag.zero.cells).length=29:=rfl
      have hct:=Cw cur w (l.length - w) ag.zero.cells hz (by omega)
      obtain ⟨Z,hZ⟩:∃ Z,cU (iW cur) (w*29) (List.replicate (l.length - w) ag.zero.cells).flatten=Z:=⟨_,rfl⟩
      rw [hZ] at hct
      rw [hZ]
      refine SW.seq ?_
      refine SW.g0 [0,1,4,5,6,7,12,19,29] mixed af ?_
      refine SW.trim (n:=n) (e:=43) (sz:=29) (len:=l.length) (cs:=Z) w (by simp [aa]) (by omega) ?_
      dsimp only
      rw [jG,hct,hKe]
      rw [hKe] at hh
      refine SW.ret ?_
      rw [he]
      have hlw:(cur.take w).length=w:=by rw [List.length_take];omega
      exact End.mk ((n,.arr 43 29 w (iW (cur.take w)))::Fh s) (h3:=fun _ _ h=>h) (h4:=⟨by simp [eP,hlw],by simp [hlw]⟩) (h5:=by simp [eP,SV.ok];omega) (h6:=hh.AR (by omega) _)
include hd in
theorem tv (l:List ag)(s0:σ)(hl:l.length<1000000000)(hB:l.length≤B)(hG:∀ x,x∈l→G x)(hI:I 0 s0)(n k:Nat)(hn:n<k)(h0:kC Fh n k s0 s0)(lP:(Fh s0).ok (fun m=>(lk (Fh s0) m).isSome)=true):
  aM Tryz.prog slices_DeleteFunc_Lapi_Op_api_Op.f [.gs n l.length,.fn (.func g) first cap] ((n,.arr 43 29 l.length (iW l))::Fh s0) k (l.length*aX+l.length*(aX+1)) (.gs n (bG step s0 l).1.length)
   ((n,.arr 43 29 (bG step s0 l).1.length (iW (bG step s0 l).1))::Fh (bG step s0 l).2):=by
 unfold aM
 have hq:=Ct (n:=n) (o:= .arr 43 29 l.length (iW l)) (fun q=>SV.bh _) lP h0.no
 have hq0:(Fh s0).ok (fun m=>(lk ((n,Ob.arr 43 29 l.length (iW l))::Fh s0) m).isSome)=true:=by
  simp only [Hp.ok,List.all_cons,Bool.and_eq_true] at hq ⊢
  exact hq.2
 obtain ⟨o1,o2⟩:=hd.a1 s0 _ hq0
 refine (yC hd l s0 hl hB hG hI n k hn h0 lP).here (fun m=>(lk ((n,Ob.arr 43 29 l.length (iW l))::Fh s0) m).isSome) (fun m h e=>by rw [e] at h;cases h) (by simp only [SV.ay,SV.ok,o1,o2,Bool.and_true];simp [aa]) hq ?_
 rintro x F ⟨rfl,rfl⟩ _ _
 refine ⟨by simp [SV.ok,aa],?_⟩
 have:=xH hd l s0 hq0
 exact av (by simp [aa]) (SV.bh _) (Hp.dy (fun m hm=>by rw [hm];rfl) this)
end
end
section
structure Tr where
 bx:Nat
 ma:Nat
 mm:Nat
 at_:MM Dt Cr
 ca:Nat
 made:MM Dt ag
 cm:Nat
abbrev Tr.oa (T:Tr):Ob:= .map (an Dt.cells cv T.at_) T.ca
abbrev Tr.om (T:Tr):Ob:= .map (an Dt.cells ov T.made) T.cm
def Tr.hp (T:Tr):Hp:=[(T.bx,.box 166 [.mp T.ma,.mp T.mm]),(T.ma,.map (an Dt.cells cv T.at_) T.ca),(T.mm,.map (an Dt.cells ov T.made) T.cm)]
structure Tr.sep (T:Tr):Prop where
 ab:T.ma≠T.bx
 mb:T.mm≠T.bx
 am:T.ma≠T.mm
structure Tr.lt (T:Tr)(k:Nat):Prop where
 b:T.bx<k
 a:T.ma<k
 m:T.mm<k
theorem Tr.Kq {T:Tr}{q:Nat→Bool}(h1:q T.bx=true)(h2:q T.ma=true)(h3:q T.mm=true):T.hp.ok q=true:=by
 simp only [Tr.hp,Hp.ok,List.all_cons,List.all_nil,Ob.ok,SV.ay,SV.ok,h1,h2,h3,Bool.and_true,Bool.true_and]
 have a:=iY q T.at_
 have b:=bq q T.made
 simp only [a,b,Bool.and_true]
theorem Tr.rR {T:Tr}{k:Nat}(h:T.lt k):T.hp.ok (fun n=>decide (n<k))=true:=Tr.Kq (by simpa using h.b) (by simpa using h.a) (by simpa using h.m)
theorem Tr.names (T:Tr):T.hp.map (·.1)=[T.bx,T.ma,T.mm]:=rfl
theorem Tr.nd {T:Tr}(h:T.sep):(T.hp.map (·.1)).Nodup:=by
 have:=h.ab;have:=h.mb;have:=h.am
 simp [Tr.names];omega
theorem Tr.GH (T:Tr):lk T.hp T.bx=some (.box 166 [.mp T.ma,.mp T.mm]):=by simp [Tr.hp,aa]
theorem Tr.IK {T:Tr}(h:T.sep):lk T.hp T.ma=some T.oa:=by
 rw [Tr.hp,aa,if_neg h.ab,aa,if_pos rfl]
theorem Tr.KO {T:Tr}(h:T.sep):lk T.hp T.mm=some T.om:=by
 rw [Tr.hp,aa,if_neg h.mb,aa,if_neg (Ne.symm h.am),aa,if_pos rfl]
theorem Tr.cl {T:Tr}(h:T.sep):T.hp.ok (fun m=>(lk T.hp m).isSome)=true:=Tr.Kq (by rw [T.GH];rfl) (by rw [Tr.IK h];rfl) (by rw [Tr.KO h];rfl)
theorem Tr.out {T:Tr}{m:Nat}(h1:m≠T.bx)(h2:m≠T.ma)(h3:m≠T.mm):lk T.hp m=none:=by
 rw [Tr.hp,aa,if_neg h1,aa,if_neg h2,aa,if_neg h3];rfl
theorem Tr.Lq {T:Tr}{k m:Nat}(h:T.lt k)(hm:k≤m):lk T.hp m=none:=by
 obtain ⟨h1,h2,h3⟩:=h
 exact Tr.out (by omega) (by omega) (by omega)
section
attribute [local irreducible] SW RW aM SC ak au Tr.hp
variable {T:Tr} (hs:T.sep)
include hs in
theorem Fp {k:Nat}(hlt:T.lt k):aM Tryz.prog tree_Tree_none.f [.ptr T.bx 0] T.hp k 0 (bl false) T.hp:=by
 refine SB.same ?_ (Tr.cl hs) (by simp [SV.ay,SV.ok,Tr.hp,aa]) (fun _=>rfl)
 refine tree_Tree_none.enter (by simp [SV.ay,SV.ok];exact hlt.b) (Tr.rR hlt) (by simp) ?_
 dsimp only [tree_Tree_none.s,Co.M,Co.G,Co.J,Co.H,Co.N,Co.F,Co.C,Co.Z,Co.B,Co.b8,Co.aB,Co.bL,Co.i6,Co.z8,Co.bU]
 have f1:=bA hs.ab
 have u1:List.lookup T.bx T.hp=some (.box 166 [.mp T.ma,.mp T.mm]):=T.GH
 have u2:List.lookup T.ma T.hp=some T.oa:=Tr.IK hs
 (repeat (first | refine SW.seq ?_ | refine SW.block ?_ | refine SW.g0 [0,2] mixed (And.intro (f1) (And.intro (u1) (u2))) ?_ | refine SW.skip ?_ | refine SW.exit ?_ | refine SW.ret ?_ | refine SW.ah rfl ?_ | refine SW.aj rfl ?_))
 exact End.mk T.hp (h3:=fun _ _ h=>h) (h4:=⟨rfl,rfl⟩) (h6:=Tr.rR hlt)
theorem zM (o:ag){b k:Nat}(hb:b<k):aM Tryz.prog tree_Tree_Why_1.f [.ptr b 0] [(b,.box 43 o.cells)] k 0 (bl (decide (o.kind≠1))) [(b,.box 43 o.cells)]:=by
 refine SB.same ?_ (by simp [Hp.ok,Ob.ok,aa]) (by simp [SV.ay,SV.ok,aa]) (fun _=>rfl)
 refine tree_Tree_Why_1.enter (by simp [SV.ay,SV.ok];exact hb) (by simp [Hp.ok,Ob.ok];exact hb) (by simp) ?_
 dsimp only [tree_Tree_Why_1.s,Co.M,Co.G,Co.J,Co.H,Co.N,Co.F,Co.C,Co.Z,Co.B,Co.b8,Co.aB,Co.bL,Co.i6,Co.z8,Co.bU]
 have e1:(((o.kind:Nat):Int) != 1)=decide (o.kind≠1):=by
  rw [Bool.eq_iff_iff];simp only [bne_iff_ne,decide_eq_true_eq];omega
 (repeat (first | refine SW.seq ?_ | refine SW.block ?_ | refine SW.g0 [0,1] mixed (e1) ?_ | refine SW.skip ?_ | refine SW.exit ?_ | refine SW.ret ?_ | refine SW.ah rfl ?_ | refine SW.aj rfl ?_))
 exact End.mk [(b,.box 43 o.cells)] (h3:=fun _ _ h=>h) (h4:=⟨rfl,rfl⟩) (h6:=by simp [Hp.ok,Ob.ok];exact hb)
theorem zN (c:Cr)(o:ag){b b2 k:Nat}(hb:b<k)(EF:b2<k)(hne:b≠b2):aM Tryz.prog tree_Tree_Why_3.f [.ptr b 0,.ptr b2 0] [(b2,.box 43 o.cells),(b,.box 158 c.cells)] k 0 (bl (decide (c.hold≠o.who))) [(b2,.box 43 o.cells),(b,.box 158 c.cells)]:=by
 refine SB.same ?_ (by simp [Hp.ok,Ob.ok,aa,hne]) (by simp [SV.ay,SV.ok,aa,hne]) (fun _=>rfl)
 refine tree_Tree_Why_3.enter (by simp [SV.ay,SV.ok];omega) (by simp [Hp.ok,Ob.ok];omega) (by simp) ?_
 dsimp only [tree_Tree_Why_3.s,Co.M,Co.G,Co.J,Co.H,Co.N,Co.F,Co.C,Co.Z,Co.B,Co.b8,Co.aB,Co.bL,Co.i6,Co.z8,Co.bU]
 have f1:=bA hne
 have e1:(((c.hold:Nat):Int) != ((o.who:Nat):Int))=decide (c.hold≠o.who):=by
  rw [Bool.eq_iff_iff];simp only [bne_iff_ne,decide_eq_true_eq];omega
 (repeat (first | refine SW.seq ?_ | refine SW.block ?_ | refine SW.g0 [0,1,2] mixed (And.intro (e1) (f1)) ?_ | refine SW.skip ?_ | refine SW.exit ?_ | refine SW.ret ?_ | refine SW.ah rfl ?_ | refine SW.aj rfl ?_))
 exact End.mk [(b2,.box 43 o.cells),(b,.box 158 c.cells)] (h3:=fun _ _ h=>h) (h4:=⟨rfl,rfl⟩) (h6:=by simp [Hp.ok,Ob.ok];omega)
theorem zO (c:Cr){b k:Nat}(hb:b<k):aM Tryz.prog tree_Tree_Why_4.f [.ptr b 0] [(b,.box 158 c.cells)] k 0 (bl (bits .and .u8 (c.bp:Int) 1 == 0)) [(b,.box 158 c.cells)]:=by
 refine SB.same ?_ (by simp [Hp.ok,Ob.ok,aa]) (by simp [SV.ay,SV.ok,aa]) (fun _=>rfl)
 refine tree_Tree_Why_4.enter (by simp [SV.ay,SV.ok];exact hb) (by simp [Hp.ok,Ob.ok];exact hb) (by simp) ?_
 dsimp only [tree_Tree_Why_4.s,Co.M,Co.G,Co.J,Co.H,Co.N,Co.F,Co.C,Co.Z,Co.B,Co.b8,Co.aB,Co.bL,Co.i6,Co.z8,Co.bU]
 (repeat (first | refine SW.seq ?_ | refine SW.block ?_ | refine SW.g0 [0,1] mixed af ?_ | refine SW.skip ?_ | refine SW.exit ?_ | refine SW.ret ?_ | refine SW.ah rfl ?_ | refine SW.aj rfl ?_))
 exact End.mk [(b,.box 158 c.cells)] (h3:=fun _ _ h=>h) (h4:=⟨rfl,rfl⟩) (h6:=by simp [Hp.ok,Ob.ok];exact hb)
def gd (o:ag)(c:Cr):Bool:=(((o.bp:Int) == 0) || (bits .andNot .u8 (o.bp:Int) (c.bp:Int) != 0)) || ((o.to:Int) == 0) || decide ((o.depth:Int)≥c.depth) || decide ((o.cap:Int)>c.cap)
theorem zP (c:Cr)(o:ag){b b2 k:Nat}(hb:b<k)(EF:b2<k)(hne:b≠b2):aM Tryz.prog tree_Tree_Why_5.f [.ptr b2 0,.ptr b 0] [(b2,.box 43 o.cells),(b,.box 158 c.cells)] k 0 (bl (gd o c)) [(b2,.box 43 o.cells),(b,.box 158 c.cells)]:=by
 refine SB.same ?_ (by simp [Hp.ok,Ob.ok,aa,hne]) (by simp [SV.ay,SV.ok,aa,hne]) (fun _=>rfl)
 refine tree_Tree_Why_5.enter (by simp [SV.ay,SV.ok];omega) (by simp [Hp.ok,Ob.ok];omega) (by simp) ?_
 dsimp only [tree_Tree_Why_5.s,Co.M,Co.G,Co.J,Co.H,Co.N,Co.F,Co.C,Co.Z,Co.B,Co.b8,Co.aB,Co.bL,Co.i6,Co.z8,Co.bU]
 have f1:=bA hne
 rcases h1:((o.bp:Int) == 0) with _ | _
 ·skip
  rcases h2:(bits .andNot .u8 (o.bp:Int) (c.bp:Int) != 0) with _ | _
  ·skip
   rcases h3:((o.to:Int) == 0) with _ | _
   ·skip
    rcases h4:decide ((o.depth:Int)≥c.depth) with _ | _
    ·skip
     (repeat (first | refine SW.seq ?_ | refine SW.block ?_ | refine SW.g0 [0,1,2] mixed (And.intro (h1) (And.intro (h2) (And.intro (h3) (And.intro (h4) (f1))))) ?_ | refine SW.skip ?_ | refine SW.exit ?_ | refine SW.ret ?_ | refine SW.ah rfl ?_ | refine SW.aj rfl ?_))
     exact End.mk [(b2,.box 43 o.cells),(b,.box 158 c.cells)] (h3:=fun _ _ h=>h) (h4:=⟨by simp only [gd,h1,h2,h3,h4,Bool.false_or,Bool.or_false,Bool.true_or];rfl,rfl⟩) (h6:=by simp [Hp.ok,Ob.ok];omega)
    ·(repeat (first | refine SW.seq ?_ | refine SW.block ?_ | refine SW.g0 [0,1,2] mixed (And.intro (h1) (And.intro (h2) (And.intro (h3) (And.intro (h4) (f1))))) ?_ | refine SW.skip ?_ | refine SW.exit ?_ | refine SW.ret ?_ | refine SW.ah rfl ?_ | refine SW.aj rfl ?_))
     exact End.mk [(b2,.box 43 o.cells),(b,.box 158 c.cells)] (h3:=fun _ _ h=>h) (h4:=⟨by simp only [gd,h1,h2,h3,h4,Bool.false_or,Bool.or_false,Bool.true_or];rfl,rfl⟩) (h6:=by simp [Hp.ok,Ob.ok];omega)
   ·(repeat (first | refine SW.seq ?_ | refine SW.block ?_ | refine SW.g0 [0,1,2] mixed (And.intro (h1) (And.intro (h2) (And.intro (h3) (f1)))) ?_ | refine SW.skip ?_ | refine SW.exit ?_ | refine SW.ret ?_ | refine SW.ah rfl ?_ | refine SW.aj rfl ?_))
    exact End.mk [(b2,.box 43 o.cells),(b,.box 158 c.cells)] (h3:=fun _ _ h=>h) (h4:=⟨by simp only [gd,h1,h2,h3,Bool.false_or,Bool.or_false,Bool.true_or];rfl,rfl⟩) (h6:=by simp [Hp.ok,Ob.ok];omega)
  ·(repeat (first | refine SW.seq ?_ | refine SW.block ?_ | refine SW.g0 [0,1,2] mixed (And.intro (h1) (And.intro (h2) (f1))) ?_ | refine SW.skip ?_ | refine SW.exit ?_ | refine SW.ret ?_ | refine SW.ah rfl ?_ | refine SW.aj rfl ?_))
   exact End.mk [(b2,.box 43 o.cells),(b,.box 158 c.cells)] (h3:=fun _ _ h=>h) (h4:=⟨by simp only [gd,h1,h2,Bool.false_or,Bool.or_false,Bool.true_or];rfl,rfl⟩) (h6:=by simp [Hp.ok,Ob.ok];omega)
 ·(repeat (first | refine SW.seq ?_ | refine SW.block ?_ | refine SW.g0 [0,1,2] mixed (And.intro (h1) (f1)) ?_ | refine SW.skip ?_ | refine SW.exit ?_ | refine SW.ret ?_ | refine SW.ah rfl ?_ | refine SW.aj rfl ?_))
  exact End.mk [(b2,.box 43 o.cells),(b,.box 158 c.cells)] (h3:=fun _ _ h=>h) (h4:=⟨by simp only [gd,h1,Bool.false_or,Bool.or_false,Bool.true_or];rfl,rfl⟩) (h6:=by simp [Hp.ok,Ob.ok];omega)
end
end
end Go.Proofs.YtaelhkkjgfobhaaGreat
