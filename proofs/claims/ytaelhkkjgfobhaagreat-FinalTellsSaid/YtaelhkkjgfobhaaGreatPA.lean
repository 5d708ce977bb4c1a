/-
 Trees of credentials: what stands below them: orders of dots, what vectors cover, what is found in rows.
-/
import Derived.Test.YtaelhkkjgfobhaaGreatP6
import Derived.Test.YtaelhkkjgfobhaaGreatPV
import Derived.Test.YtaelhkkjgfobhaaGreatP5
import Derived.Test.YtaelhkkjgfobhaaGreatP4
set_option linter.unusedSectionVars false
set_option linter.unusedVariables false
set_option linter.unusedSimpArgs false
namespace Go.Proofs.YtaelhkkjgfobhaaGreat
open Go.Sl Go.Proofs
section
attribute [local irreducible] SW RW aF SC ai aq
def dJ (a b:Int):Int:=if a<b then -1 else if a>b then 1 else 0
theorem KA (r n:Int):Go.Sl.Pure Tryz.prog dot_May.f [.agg [.d (.int .u8 r),.d (.int .u32 n)]] (bl (decide (r<8) && decide (n>0))):=by
 refine dot_May.enter (by first | rfl | simp [SV.ok,SV.ax]) (by first | rfl | simp [Hp.ok,Ob.ok,SV.ok,SV.ax,aB.ak]) (by simp) ?_;dsimp only [dot_May.s,Co.M,Co.J,Co.H,Co.F,Co.B,Co.b8,Co.av,Co.T,Co.x,Co.U,Co.D,Co.S];rcases h1:decide (r<8) with _ | _
 ·(repeat (first | refine SW.seq ?_ | refine SW.block ?_ | refine SW.g0 [0,1,2] mixed (h1) ?_ | refine SW.skip ?_ | refine SW.exit ?_ | refine SW.ret ?_ | refine SW.aj rfl ?_ | refine SW.ah rfl ?_))
  exact End.mk [] (h4:=⟨rfl,rfl⟩)
 ·(repeat (first | refine SW.seq ?_ | refine SW.block ?_ | refine SW.g0 [0,1,2] mixed (h1) ?_ | refine SW.skip ?_ | refine SW.exit ?_ | refine SW.ret ?_ | refine SW.aj rfl ?_ | refine SW.ah rfl ?_))
  exact End.mk [] (h4:=⟨rfl,rfl⟩)
theorem HL (r n:Int):Go.Sl.Pure Tryz.prog ref03_May.f [.agg [.d (.int .u8 r),.d (.int .u32 n)]] (bl (decide (r≤7) && decide (n≥1))):=by
 refine ref03_May.enter (by first | rfl | simp [SV.ok,SV.ax]) (by first | rfl | simp [Hp.ok,Ob.ok,SV.ok,SV.ax,aB.ak]) (by simp) ?_;dsimp only [ref03_May.s,Co.M,Co.J,Co.H,Co.F,Co.B,Co.b8,Co.av,Co.T,Co.x,Co.U,Co.D,Co.S];rcases h1:decide (r≤7) with _ | _
 ·(repeat (first | refine SW.seq ?_ | refine SW.block ?_ | refine SW.g0 [0,1,2] mixed (h1) ?_ | refine SW.skip ?_ | refine SW.exit ?_ | refine SW.ret ?_ | refine SW.aj rfl ?_ | refine SW.ah rfl ?_))
  exact End.mk [] (h4:=⟨rfl,rfl⟩)
 ·(repeat (first | refine SW.seq ?_ | refine SW.block ?_ | refine SW.g0 [0,1,2] mixed (h1) ?_ | refine SW.skip ?_ | refine SW.exit ?_ | refine SW.ret ?_ | refine SW.aj rfl ?_ | refine SW.ah rfl ?_))
  exact End.mk [] (h4:=⟨rfl,rfl⟩)
theorem xE (d:Dt)(k:Nat):aF Tryz.prog dot_May.f [.agg d.cells] [] k 0 (bl d.may) []:=by
 have:=(KA d.r d.n).sc rfl k;have e:d.may=(decide ((d.r:Int)<8) && decide ((d.n:Int)>0)):=by
  unfold Dt.may;rw [Bool.eq_iff_iff];simp only [Bool.and_eq_true,decide_eq_true_eq];omega
 rw [e];exact this
theorem tH (d:Dt)(k:Nat):aF Tryz.prog ref03_May.f [.agg d.cells] [] k 0 (bl d.may) []:=by
 have:=(HL d.r d.n).sc rfl k;have e:d.may=(decide ((d.r:Int)≤7) && decide ((d.n:Int)≥1)):=by
  unfold Dt.may;rw [Bool.eq_iff_iff];simp only [Bool.and_eq_true,decide_eq_true_eq];omega
 rw [e];exact this
theorem Cq (v:aB)(d:Dt):Go.Sl.Pure Tryz.prog vector_Covers.f [.agg v.cells,.agg d.cells] (bl (v.bn d)):=by
 refine vector_Covers.enter (by first | rfl | simp [SV.ok,SV.ax]) (by first | rfl | simp [Hp.ok,Ob.ok,SV.ok,SV.ax,aB.ak]) (by simp) ?_;dsimp only [vector_Covers.s,Co.M,Co.J,Co.H,Co.F,Co.B,Co.K,Co.P,Co.x,Co.U,Co.S];rcases h:d.may with _ | _
 ·(repeat (first | refine SW.seq ?_ | refine SW.block ?_ | (refine SW.bT [0,1,2,3,4] mixed ?_;(repeat (first | refine RW.ro (h) (h:= ?_) | refine RW.skip (h:= ?_) | refine RW.op (h) (h:= ?_) | refine RW.dD (h) (h:= ?_) | refine RW.aY (h:= ?_) | (refine RW.aM (h:= ?_);(first | refine ai.mk (h) (hc:=xE _ _) (h:= ?_) | refine ai.mk (h) (hc:=tH _ _) (h:= ?_)))));refine RW.nil ⟨by kernel_rfl,aq.mk (h:= ?_)⟩) | refine SW.skip ?_ | refine SW.exit ?_ | refine SW.ret ?_ | refine SW.aj rfl ?_ | refine SW.ah rfl ?_))
  have e:v.bn d=false:=by unfold aB.bn;rw [h];rfl
  exact End.mk [] (h4:=⟨by rw [e];rfl,rfl⟩)
 ·have hr:d.r<8:=by
   have:=h;simp only [Dt.may,Bool.and_eq_true,decide_eq_true_eq] at this;exact this.1
  have e:v.bn d=decide ((v.get d.r:Int)≥d.n):=by
   unfold aB.bn;rw [h,Bool.true_and,Bool.eq_iff_iff];simp only [decide_eq_true_eq];omega
  (repeat (first | refine SW.seq ?_ | refine SW.block ?_ | (have fx:=(And.intro (h) (aB.pn v hr));refine SW.bT [0,1,2,3,4] mixed ?_;(repeat (first | refine RW.ro fx (h:= ?_) | refine RW.skip (h:= ?_) | refine RW.op fx (h:= ?_) | refine RW.dD fx (h:= ?_) | refine RW.aY (h:= ?_) | (refine RW.aM (h:= ?_);(first | refine ai.mk fx (hc:=xE _ _) (h:= ?_) | refine ai.mk fx (hc:=tH _ _) (h:= ?_)))));refine RW.nil ⟨by kernel_rfl,aq.mk (h:= ?_)⟩) | refine SW.skip ?_ | refine SW.exit ?_ | refine SW.ret ?_ | refine SW.aj rfl ?_ | refine SW.ah rfl ?_));exact End.mk [] (h4:=⟨by rw [e];rfl,rfl⟩)
theorem AF (v:aB)(d:Dt):Go.Sl.Pure Tryz.prog ref04_Covers.f [.agg v.cells,.agg d.cells] (bl (v.bn d)):=by
 refine ref04_Covers.enter (by first | rfl | simp [SV.ok,SV.ax]) (by first | rfl | simp [Hp.ok,Ob.ok,SV.ok,SV.ax,aB.ak]) (by simp) ?_;dsimp only [ref04_Covers.s,Co.M,Co.J,Co.H,Co.F,Co.B,Co.K,Co.P,Co.x,Co.U,Co.S];rcases h:d.may with _ | _
 ·(repeat (first | refine SW.seq ?_ | refine SW.block ?_ | (refine SW.bT [0,1,2,3,4] mixed ?_;(repeat (first | refine RW.ro (h) (h:= ?_) | refine RW.skip (h:= ?_) | refine RW.op (h) (h:= ?_) | refine RW.dD (h) (h:= ?_) | refine RW.aY (h:= ?_) | (refine RW.aM (h:= ?_);(first | refine ai.mk (h) (hc:=xE _ _) (h:= ?_) | refine ai.mk (h) (hc:=tH _ _) (h:= ?_)))));refine RW.nil ⟨by kernel_rfl,aq.mk (h:= ?_)⟩) | refine SW.skip ?_ | refine SW.exit ?_ | refine SW.ret ?_ | refine SW.aj rfl ?_ | refine SW.ah rfl ?_))
  have e:v.bn d=false:=by unfold aB.bn;rw [h];rfl
  exact End.mk [] (h4:=⟨by rw [e];rfl,rfl⟩)
 ·have hr:d.r<8:=by
   have:=h;simp only [Dt.may,Bool.and_eq_true,decide_eq_true_eq] at this;exact this.1
  have e:v.bn d=decide ((d.n:Int)≤v.get d.r):=by
   unfold aB.bn;rw [h,Bool.true_and,Bool.eq_iff_iff];simp only [decide_eq_true_eq];omega
  (repeat (first | refine SW.seq ?_ | refine SW.block ?_ | (have fx:=(And.intro (h) (aB.pn v hr));refine SW.bT [0,1,2,3,4] mixed ?_;(repeat (first | refine RW.ro fx (h:= ?_) | refine RW.skip (h:= ?_) | refine RW.op fx (h:= ?_) | refine RW.dD fx (h:= ?_) | refine RW.aY (h:= ?_) | (refine RW.aM (h:= ?_);(first | refine ai.mk fx (hc:=xE _ _) (h:= ?_) | refine ai.mk fx (hc:=tH _ _) (h:= ?_)))));refine RW.nil ⟨by kernel_rfl,aq.mk (h:= ?_)⟩) | refine SW.skip ?_ | refine SW.exit ?_ | refine SW.ret ?_ | refine SW.aj rfl ?_ | refine SW.ah rfl ?_));exact End.mk [] (h4:=⟨by rw [e];rfl,rfl⟩)
theorem pH (v:aB)(d:Dt)(k:Nat):aF Tryz.prog vector_Covers.f [.agg v.cells,.agg d.cells] [] k 0 (bl (v.bn d)) []:=(Cq v d).sc rfl k
theorem qt (v:aB)(d:Dt)(k:Nat):aF Tryz.prog ref04_Covers.f [.agg v.cells,.agg d.cells] [] k 0 (bl (v.bn d)) []:=(AF v d).sc rfl k
theorem Cs (a b:ag):Go.Sl.Pure Tryz.prog order_Before.f [.agg a.cells,.agg b.cells] (bl (a.before b)):=by
 refine order_Before.enter (by first | rfl | simp [SV.ok,SV.ax]) (by first | rfl | simp [Hp.ok,Ob.ok,SV.ok,SV.ax,aB.ak]) (by simp) ?_;dsimp only [order_Before.s,Co.M,Co.J,Co.F,Co.B,Co.K,Co.Q,Co.x,Co.D,Co.S];(repeat (first | refine SW.seq ?_ | refine SW.block ?_ | (refine SW.bT [0,1,2,3,4] mixed ?_;(repeat (first | refine RW.ro af (h:= ?_) | refine RW.skip (h:= ?_) | refine RW.op af (h:= ?_) | refine RW.dD af (h:= ?_) | refine RW.aY (h:= ?_) | (refine RW.aM (h:= ?_);(first | refine ai.mk af (hc:=pH _ _ _) (h:= ?_) | refine ai.mk af (hc:=qt _ _ _) (h:= ?_)))));refine RW.nil ⟨by kernel_rfl,aq.mk (h:= ?_)⟩) | refine SW.skip ?_ | refine SW.exit ?_ | refine SW.ret ?_ | refine SW.aj rfl ?_ | refine SW.ah rfl ?_));exact End.mk [] (h4:=⟨rfl,rfl⟩)
theorem AG (a b:ag):Go.Sl.Pure Tryz.prog ref10_Before.f [.agg a.cells,.agg b.cells] (bl (a.before b)):=by
 refine ref10_Before.enter (by first | rfl | simp [SV.ok,SV.ax]) (by first | rfl | simp [Hp.ok,Ob.ok,SV.ok,SV.ax,aB.ak]) (by simp) ?_;dsimp only [ref10_Before.s,Co.M,Co.J,Co.F,Co.B,Co.K,Co.Q,Co.x,Co.D,Co.S];(repeat (first | refine SW.seq ?_ | refine SW.block ?_ | (refine SW.bT [0,1,2,3,4] mixed ?_;(repeat (first | refine RW.ro af (h:= ?_) | refine RW.skip (h:= ?_) | refine RW.op af (h:= ?_) | refine RW.dD af (h:= ?_) | refine RW.aY (h:= ?_) | (refine RW.aM (h:= ?_);(first | refine ai.mk af (hc:=pH _ _ _) (h:= ?_) | refine ai.mk af (hc:=qt _ _ _) (h:= ?_)))));refine RW.nil ⟨by kernel_rfl,aq.mk (h:= ?_)⟩) | refine SW.skip ?_ | refine SW.exit ?_ | refine SW.ret ?_ | refine SW.aj rfl ?_ | refine SW.ah rfl ?_));exact End.mk [] (h4:=⟨rfl,rfl⟩)
theorem kD (a b:ag)(k:Nat):aF Tryz.prog order_Before.f [.agg a.cells,.agg b.cells] [] k 0 (bl (a.before b)) []:=(Cs a b).sc rfl k
theorem cL (a b:ag)(k:Nat):aF Tryz.prog ref10_Before.f [.agg a.cells,.agg b.cells] [] k 0 (bl (a.before b)) []:=(AG a b).sc rfl k
end
section
section
attribute [local irreducible] SW RW aF SC ai aq
theorem yU:∀ (x y a b:SV),cN (cN [x,y] 0 [a]) 1 [b]=[a,b]:=fun _ _ _ _=>rfl
def Ez (a b:Dt):Int:=if dJ a.r b.r=0 then dJ a.n b.n else dJ a.r b.r
theorem yV (a b:Dt)(ha:a.wf)(hb:b.wf):Go.Sl.Pure Tryz.prog ref03_Compare.f [.agg a.cells,.agg b.cells] (i64 (dJ ((a.r:Int)*8589934592+a.n) ((b.r:Int)*8589934592+b.n))):=by
 obtain ⟨a1,a2⟩:=ha;obtain ⟨b1,b2⟩:=hb;refine ref03_Compare.enter (by first | rfl | simp [SV.ok,SV.ax]) (by first | rfl | simp [Hp.ok,Ob.ok,SV.ok,SV.ax,aB.ak]) (by simp) ?_;dsimp only [ref03_Compare.s,Co.M,Co.J,Co.F,Co.Z,Co.T,Co.x,Co.Y,Co.V,Co.D,Co.S];generalize hx:(a.r:Int)*8589934592+a.n=x;generalize hy:(b.r:Int)*8589934592+b.n=y;rcases Int.lt_trichotomy x y with h | h | h
 ·have e1:decide (x<y)=true:=by simp [h]
  have e2:dJ x y= -1:=by simp [dJ,h]
  (repeat (first | refine SW.seq ?_ | refine SW.block ?_ | refine SW.g0 [0,1,2,3,4,5,6,25,28] mixed (And.intro (hx) (And.intro (hy) (e1))) ?_ | refine SW.skip ?_ | refine SW.exit ?_ | refine SW.ret ?_ | refine SW.aj rfl ?_ | refine SW.ah rfl ?_));exact End.mk [] (h4:=⟨by rw [e2];rfl,rfl⟩)
 ·have e1:decide (x<y)=false:=by simp [h]
  have e3:decide (x>y)=false:=by simp [h]
  have e2:dJ x y=0:=by simp [dJ,h]
  (repeat (first | refine SW.seq ?_ | refine SW.block ?_ | refine SW.g0 [0,1,2,3,4,5,6,25,28] mixed (And.intro (hx) (And.intro (hy) (And.intro (e1) (e3)))) ?_ | refine SW.skip ?_ | refine SW.exit ?_ | refine SW.ret ?_ | refine SW.aj rfl ?_ | refine SW.ah rfl ?_));exact End.mk [] (h4:=⟨by rw [e2];rfl,rfl⟩)
 ·have e1:decide (x<y)=false:=by simp;omega
  have e3:decide (x>y)=true:=by simp [h]
  have e2:dJ x y=1:=by unfold dJ;rw [if_neg (by omega),if_pos h]
  (repeat (first | refine SW.seq ?_ | refine SW.block ?_ | refine SW.g0 [0,1,2,3,4,5,6,25,28] mixed (And.intro (hx) (And.intro (hy) (And.intro (e1) (e3)))) ?_ | refine SW.skip ?_ | refine SW.exit ?_ | refine SW.ret ?_ | refine SW.aj rfl ?_ | refine SW.ah rfl ?_));exact End.mk [] (h4:=⟨by rw [e2];rfl,rfl⟩)
theorem HM (a b:Dt)(ha:a.wf)(hb:b.wf):dJ ((a.r:Int)*8589934592+a.n) ((b.r:Int)*8589934592+b.n)=Ez a b:=by
 obtain ⟨a1,a2⟩:=ha;obtain ⟨b1,b2⟩:=hb;unfold Ez dJ
 repeat' split
 all_goals omega
theorem yW (a b:Dt)(ha:a.wf)(hb:b.wf)(k:Nat):aF Tryz.prog ref03_Compare.f [.agg a.cells,.agg b.cells] [] k 0 (.d (.int .i64 (Ez a b))) []:=by
 have:=(yV a b ha hb).sc rfl k
 rwa [HM a b ha hb] at this
theorem HN (l m:List Dt)(hl:l.length<4611686018427387904)(hm:m.length<4611686018427387904):Go.Sl.Pure Tryz.prog ref03_Same.f [aW l,aW m] (bl (decide (l=m))):=by
 refine ref03_Same.enter (by first | rfl | simp [SV.ok,SV.ax]) (by first | rfl | simp [Hp.ok,Ob.ok,SV.ok,SV.ax,aB.ak]) (by simp) ?_;dsimp only [ref03_Same.s,Co.M,Co.J,Co.F,Co.Z,Co.B,Co.K,Co.L,Co.Y,Co.V,Co.I,Co.S]
 by_cases hn:l.length=m.length
 ·have h0:(((l.length:Nat):Int) != ((m.length:Nat):Int))=false:=by simp;omega
  (repeat (first | refine SW.seq ?_ | refine SW.block ?_ | refine SW.g0 [0,1,4,5,10,14,25] mixed (h0) ?_ | refine SW.skip ?_ | refine SW.exit ?_ | refine SW.ret ?_ | refine SW.aj rfl ?_ | refine SW.ah rfl ?_));refine SW.gY (α:={i:Nat // i≤l.length∧∀ j,j<i→l[j]? =m[j]?}) (fun i=>⟨[(5,i64 i.1),(0,aW l),(1,aW m)],[],0⟩) (fun i=>l.length - i.1) ⟨0,by omega,by omega⟩ id af (round:= ?_);rintro ⟨i,hi,hs⟩
  by_cases h:i<l.length
  ·have h1:decide ((i:Int)<l.length)=true:=by simp only [decide_eq_true_eq];omega
   obtain ⟨x,hx⟩:=aZ h;obtain ⟨y,hy⟩:=aZ (show i<m.length by omega);have e2:IntKind.i64.wrap ((i:Int)+1)=((i+1:Nat):Int):=wrap_i64 _ (by omega)
   by_cases he:x=y
   ·have e3:decide (x=y)=true:=by simp [he]
    (repeat (first | refine SW.seq ?_ | refine SW.block ?_ | refine SW.g0 [0,1,4,5,10,14,25] mixed (And.intro (h1) (And.intro (bW hx) (And.intro (bW hy) (And.intro (e2) (e3))))) ?_ | refine SW.skip ?_ | refine SW.exit ?_ | refine SW.ret ?_ | refine SW.aj rfl ?_ | refine SW.ah rfl ?_));refine Next.mk ⟨i+1,by omega,fun j hj=> ?_⟩ id af
    by_cases e:j=i
    ·rw [e,hx,hy,he]
    ·exact hs j (by omega)
   ·have e3:decide (x=y)=false:=by simp [he]
    (repeat (first | refine SW.seq ?_ | refine SW.block ?_ | refine SW.g0 [0,1,4,5,10,14,25] mixed (And.intro (h1) (And.intro (bW hx) (And.intro (bW hy) (And.intro (e2) (e3))))) ?_ | refine SW.skip ?_ | refine SW.exit ?_ | refine SW.ret ?_ | refine SW.aj rfl ?_ | refine SW.ah rfl ?_));have:l≠m:=fun e=>by rw [e,hy] at hx;injection hx with hx;exact he hx.symm
    exact End.mk [] (h4:=⟨by simp [eH,this],rfl⟩)
  ·have h1:decide ((i:Int)<l.length)=false:=by simp only [decide_eq_false_iff_not];omega
   (repeat (first | refine SW.seq ?_ | refine SW.block ?_ | refine SW.g0 [0,1,4,5,10,14,25] mixed (h1) ?_ | refine SW.skip ?_ | refine SW.exit ?_ | refine SW.ret ?_ | refine SW.aj rfl ?_ | refine SW.ah rfl ?_));have:l=m:=Eh hn fun j hj=>hs j (by omega)
   exact End.mk [] (h4:=⟨by simp [eH,this],rfl⟩)
 ·have h0:(((l.length:Nat):Int) != ((m.length:Nat):Int))=true:=by simp;omega
  (repeat (first | refine SW.seq ?_ | refine SW.block ?_ | refine SW.g0 [0,1,4,5,10,14,25] mixed (h0) ?_ | refine SW.skip ?_ | refine SW.exit ?_ | refine SW.ret ?_ | refine SW.aj rfl ?_ | refine SW.ah rfl ?_));have:l≠m:=fun e=>hn (by rw [e])
  exact End.mk [] (h4:=⟨by simp [eH,this],rfl⟩)
theorem tI (l m:List Dt)(hl:l.length<4611686018427387904)(hm:m.length<4611686018427387904)(k:Nat):aF Tryz.prog ref03_Same.f [aW l,aW m] [] k 0 (bl (decide (l=m))) []:=(HN l m hl hm).sc rfl k
theorem AH {l:List ag}{d:Dt}{i:Nat}{x:ag}(hx:l[i]? =some x)(h:aS (l.take i) d=none):aS (l.take (i+1)) d=if x.dot=d then some x else none:=by
 unfold aS at*;rw [bH hx,List.find?_append,h]
 by_cases e:x.dot=d <;> simp [e]
theorem Ct {l:List ag}{d:Dt}{i:Nat}{x:ag}(hx:l[i]? =some x)(h:aS (l.take i) d=none)(he:x.dot=d):aS l d=some x:=by
 unfold aS at*;have hl:l=l.take i++x::l.drop (i+1):=by
  conv=>lhs;rw [← List.take_append_drop i l]
  congr 1
  rw [List.drop_eq_getElem_cons (iV hx)]
  congr 1
  rw [List.getElem?_eq_getElem (iV hx)] at hx;injection hx
 rw [hl,List.find?_append,h];simp [he]
theorem nO {l:List ag}{i:Nat}{x:ag}(h:l[i]? =some x):List.take 2 (List.drop (i*29) (List.map SV.d (l.flatMap ag.ds)))=x.dot.cells:=by
 have:=HC h (j:=0) (n:=2) (by omega);rw [Nat.add_zero,List.drop_zero] at this;rw [this];rfl
theorem lg {l:List ag}{i:Nat}{x:ag}(h:l[i]? =some x):(i*29+2≤(List.map SV.d (l.flatMap ag.ds)).length)=True:=eq_true (by
 have:=iV h;rw [List.length_map,jc];omega)
theorem HO (l:List ag)(hl:l.length<4611686018427387904)(d:Dt):Go.Sl.Pure Tryz.prog ref10_Find.f [ops l,.agg d.cells] (.dm [.agg ((aS l d).getD ag.zero).cells,bl (aS l d).isSome]):=by
 refine ref10_Find.enter (by first | rfl | simp [SV.ok,SV.ax]) (by first | rfl | simp [Hp.ok,Ob.ok,SV.ok,SV.ax,aB.ak]) (by simp) ?_;dsimp only [ref10_Find.s,Co.M,Co.J,Co.F,Co.Z,Co.B,Co.bF,Co.K,Co.L,Co.x,Co.W,Co.Y,Co.V,Co.D,Co.I,Co.S];(repeat (first | refine SW.seq ?_ | refine SW.block ?_ | refine SW.g0 [0,1,3,4,5,6,10,19] mixed af ?_ | refine SW.skip ?_ | refine SW.exit ?_ | refine SW.ret ?_ | refine SW.aj rfl ?_ | refine SW.ah rfl ?_));refine SW.gY (α:={i:Nat // i≤l.length∧aS (l.take i) d=none}) (fun i=>⟨[(6,i64 i.1),(0,ops l),(3,.ptr 0 0),(4,.ptr 1 0)],[(1,.box 43 ag.zero.cells),(0,.box 37 d.cells)],2⟩) (fun i=>l.length - i.1) ⟨0,by omega,rfl⟩ id af (round:= ?_);rintro ⟨i,hi,hs⟩
 by_cases h:i<l.length
 ·have h1:decide ((i:Int)<l.length)=true:=by simp only [decide_eq_true_eq];omega
  obtain ⟨x,hx⟩:=aZ h;have e2:IntKind.i64.wrap ((i:Int)+1)=((i+1:Nat):Int):=wrap_i64 _ (by omega)
  by_cases he:x.dot=d
  ·have e3:decide (x.dot=d)=true:=by simp [he]
   (repeat (first | refine SW.seq ?_ | refine SW.block ?_ | refine SW.g0 [0,1,3,4,5,6,10,19] mixed (And.intro (h1) (And.intro (nO hx) (And.intro (lg hx) (And.intro (wj hx) (And.intro (oy hx) (And.intro (e2) (e3))))))) ?_ | refine SW.skip ?_ | refine SW.exit ?_ | refine SW.ret ?_ | refine SW.aj rfl ?_ | refine SW.ah rfl ?_));have hf:=Ct hx hs he;rw [hf];exact End.mk [] (h4:=⟨rfl,rfl⟩)
  ·have e3:decide (x.dot=d)=false:=by simp [he]
   (repeat (first | refine SW.seq ?_ | refine SW.block ?_ | refine SW.g0 [0,1,3,4,5,6,10,19] mixed (And.intro (h1) (And.intro (nO hx) (And.intro (lg hx) (And.intro (e2) (e3))))) ?_ | refine SW.skip ?_ | refine SW.exit ?_ | refine SW.ret ?_ | refine SW.aj rfl ?_ | refine SW.ah rfl ?_));exact Next.mk ⟨i+1,by omega,by rw [AH hx hs,if_neg he]⟩ id af
 ·have h1:decide ((i:Int)<l.length)=false:=by simp only [decide_eq_false_iff_not];omega
  (repeat (first | refine SW.seq ?_ | refine SW.block ?_ | refine SW.g0 [0,1,3,4,5,6,10,19] mixed (h1) ?_ | refine SW.skip ?_ | refine SW.exit ?_ | refine SW.ret ?_ | refine SW.aj rfl ?_ | refine SW.ah rfl ?_));have hf:aS l d=none:=by rwa [List.take_of_length_le (by omega)] at hs
  rw [hf];exact End.mk [] (h4:=⟨rfl,rfl⟩)
theorem pI (l:List ag)(hl:l.length<4611686018427387904)(d:Dt)(k:Nat):aF Tryz.prog ref10_Find.f [ops l,.agg d.cells] [] k 0 (.dm [.agg ((aS l d).getD ag.zero).cells,bl (aS l d).isSome]) []:=(HO l hl d).sc rfl k
end
end
section
section
attribute [local irreducible] SW RW aF SC ai aq
def xF (o:ag):Nat:=match o.lines with
 | .sl n _=>n
 | _=>0
def Mr (o:ag):Prop:=∃ n cs,o.lines= .sl n cs∧n≤9223372036854775807
def fQ (l:List ag):Nat→Int
 | 0=>0
 | i+1=>IntKind.i64.wrap (fQ l i+((l[i]?).map xF).getD 0)
def jG (l:List ag):Bool:=decide (l.length>80) || decide (fQ l (min l.length 100)>300)
theorem EA {l:List ag}{i:Nat}{x:ag}(h:l[i]? =some x):(List.map SV.d (l.flatMap ag.ds))[i*29+28]? =some (.d x.lines):=by rw [Kw h (by omega)];rfl
theorem EB (l:List ag)(hl:∀ x,x∈l→Mr x)(hlen:l.length≤9223372036854775807):Go.Sl.Pure Tryz.prog ref10_Great.f [ops l] (bl (jG l)):=by
 refine ref10_Great.enter (by first | rfl | simp [SV.ok,SV.ax]) (by first | rfl | simp [Hp.ok,Ob.ok,SV.ok,SV.ax,aB.ak]) (by simp) ?_;dsimp only [ref10_Great.s,Co.M,Co.G,Co.J,Co.H,Co.F,Co.Z,Co.B,Co.T,Co.L,Co.Y,Co.V,Co.U,Co.D,Co.I,Co.S];(repeat (first | refine SW.seq ?_ | refine SW.block ?_ | refine SW.g0 [0,2,3,4,12] mixed af ?_ | refine SW.skip ?_ | refine SW.exit ?_ | refine SW.ret ?_ | refine SW.aj rfl ?_ | refine SW.ah rfl ?_));refine SW.gY (α:={i:Nat // i≤l.length∧i≤100}) (fun i=>⟨[(4,i64 i.1),(0,ops l),(3,i64 (fQ l i.1))],[],0⟩) (fun i=>100 - i.1) ⟨0,by omega,by omega⟩ id (show fQ l 0=0 from rfl) (round:= ?_);rintro ⟨i,hi,hi2⟩
 by_cases h:i<l.length
 ·have h1:decide ((i:Int)<l.length)=true:=by simp only [decide_eq_true_eq];omega
  by_cases h2:i<100
  ·have h3:decide ((i:Int)<100)=true:=by simp only [decide_eq_true_eq];omega
   obtain ⟨x,hx⟩:=aZ h;obtain ⟨n,cs,hx1,hx2⟩:=hl x (List.mem_of_getElem? hx);have e2:IntKind.i64.wrap ((i:Int)+1)=((i+1:Nat):Int):=wrap_i64 _ (by omega);have e3:IntKind.i64.wrap (fQ l i+(n:Int))=fQ l (i+1):=by simp [fQ,hx,xF,hx1]
   (repeat (first | refine SW.seq ?_ | refine SW.block ?_ | refine SW.g0 [0,2,3,4,12] mixed (And.intro (h1) (And.intro (h3) (And.intro (EA hx) (And.intro (hx1) (And.intro (e2) (e3)))))) ?_ | refine SW.skip ?_ | refine SW.exit ?_ | refine SW.ret ?_ | refine SW.aj rfl ?_ | refine SW.ah rfl ?_));exact Next.mk ⟨i+1,by omega,by omega⟩ id af
  ·have h3:decide ((i:Int)<100)=false:=by simp only [decide_eq_false_iff_not];omega
   have h4:decide ((l.length:Int)>80)=true:=by simp only [decide_eq_true_eq];omega
   (repeat (first | refine SW.seq ?_ | refine SW.block ?_ | refine SW.g0 [0,2,3,4,12] mixed (And.intro (h1) (And.intro (h3) (h4))) ?_ | refine SW.skip ?_ | refine SW.exit ?_ | refine SW.ret ?_ | refine SW.aj rfl ?_ | refine SW.ah rfl ?_));have:jG l=true:=by unfold jG;rw [show decide (l.length>80)=true by simp;omega];rfl
   exact End.mk [] (h4:=⟨by rw [this];rfl,rfl⟩)
 ·have h1:decide ((i:Int)<l.length)=false:=by simp only [decide_eq_false_iff_not];omega
  have e:min l.length 100=i:=by omega
  rcases h4:decide ((l.length:Int)>80) with _ | _
  ·(repeat (first | refine SW.seq ?_ | refine SW.block ?_ | refine SW.g0 [0,2,3,4,12] mixed (And.intro (h1) (h4)) ?_ | refine SW.skip ?_ | refine SW.exit ?_ | refine SW.ret ?_ | refine SW.aj rfl ?_ | refine SW.ah rfl ?_))
   have:jG l=decide (fQ l i>300):=by
    unfold jG;rw [e,show decide (l.length>80)=false by simp at h4 ⊢;omega];rfl
   exact End.mk [] (h4:=⟨by rw [this];rfl,rfl⟩)
  ·(repeat (first | refine SW.seq ?_ | refine SW.block ?_ | refine SW.g0 [0,2,3,4,12] mixed (And.intro (h1) (h4)) ?_ | refine SW.skip ?_ | refine SW.exit ?_ | refine SW.ret ?_ | refine SW.aj rfl ?_ | refine SW.ah rfl ?_))
   have:jG l=true:=by unfold jG;rw [show decide (l.length>80)=true by simp at h4 ⊢;omega];rfl
   exact End.mk [] (h4:=⟨by rw [this];rfl,rfl⟩)
theorem EC (l:List ag)(hl:∀ x,x∈l→Mr x)(hlen:l.length≤9223372036854775807)(k:Nat):aF Tryz.prog ref10_Great.f [ops l] [] k 0 (bl (jG l)) []:=(EB l hl hlen).sc rfl k
theorem wD {l:List ag}(h:jG l=false):l.length≤80:=by
 unfold jG at h;simp only [Bool.or_eq_false_iff,decide_eq_false_iff_not] at h;omega
def hasB (r b:Nat):Bool:=decide (r / b % 2=1)
theorem KB (r b:Nat)(hr:r<256)(hb:0<b∧b<256):Go.Sl.Pure Tryz.prog ref16_has.f [u8 r,u8 b] (bl (hasB r b)):=by
 refine ref16_has.enter (by first | rfl | simp [SV.ok,SV.ax]) (by first | rfl | simp [Hp.ok,Ob.ok,SV.ok,SV.ax,aB.ak]) (by simp) ?_;dsimp only [ref16_has.s,Co.M,Co.J,Co.F,Co.B,Co.b8,Co.V,Co.S];have hd:r / b≤r:=Nat.div_le_self r b;have e1:((r:Int).tdiv (b:Int))=((r / b:Nat):Int):=by rw [Int.tdiv_eq_ediv_of_nonneg (Int.natCast_nonneg _)];rfl
 have e4':hasB r b=decide (r / b % 2=1):=rfl;obtain ⟨q,hq⟩:∃ q,r / b=q:=⟨_,rfl⟩;rw [hq] at hd e1 e4';have e2:IntKind.u8.wrap (q:Int)=(q:Int):=wrap_u8' _ (by omega);have e3:((q:Int).tmod 2)=((q % 2:Nat):Int):=by rw [Int.tmod_eq_emod_of_nonneg (Int.natCast_nonneg _)];rfl
 have e4:(((q % 2:Nat):Int) == 1)=hasB r b:=by
  rw [e4',Bool.eq_iff_iff];simp only [beq_iff_eq,decide_eq_true_eq];omega
 (repeat (first | refine SW.seq ?_ | refine SW.block ?_ | refine SW.g0 [0,1,4] mixed (And.intro (e1) (And.intro (e2) (And.intro (e3) (e4)))) ?_ | refine SW.skip ?_ | refine SW.exit ?_ | refine SW.ret ?_ | refine SW.aj rfl ?_ | refine SW.ah rfl ?_));exact End.mk [] (h4:=⟨rfl,rfl⟩)
theorem gj (r b:Nat)(hr:r<256)(hb:0<b∧b<256)(k:Nat):aF Tryz.prog ref16_has.f [u8 r,u8 b] [] k 0 (bl (hasB r b)) []:=(KB r b hr hb).sc rfl k
def eu (r o:Nat):Nat→Bool
 | 0=>true
 | i+1=>eu r o i && (!hasB r (2 ^ i) || hasB o (2 ^ i))
def je (r o:Nat):Bool:=decide (r≠0) && eu r o 8
theorem oB {r o i:Nat}(h:eu r o i=false):∀ j,i≤j→eu r o j=false
 | 0,hj=>by rw [show i=0 by omega] at h;exact h
 | j+1,hj=>by
  by_cases e:i=j+1
  ·rw [← e];exact h
  ·simp only [eu,oB h j (by omega),Bool.false_and]
theorem Cu (r o:Nat)(hr:r<256)(ho:o<256):Go.Sl.Pure Tryz.prog ref16_within.f [u8 r,u8 o] (bl (je r o)):=by
 refine ref16_within.enter (by first | rfl | simp [SV.ok,SV.ax]) (by first | rfl | simp [Hp.ok,Ob.ok,SV.ok,SV.ax,aB.ak]) (by simp) ?_;dsimp only [ref16_within.s,Co.M,Co.G,Co.J,Co.H,Co.F,Co.C,Co.Z,Co.B,Co.b8,Co.Q,Co.Y,Co.U,Co.S]
 by_cases h0:r=0
 ·have e0:((r:Int) == 0)=true:=by simp [h0]
  (repeat (first | refine SW.seq ?_ | refine SW.block ?_ | refine SW.g0 [0,1,4,5,7,9,22] mixed (e0) ?_ | refine SW.skip ?_ | refine SW.exit ?_ | refine SW.ret ?_ | refine SW.aj rfl ?_ | refine SW.ah rfl ?_));have:je r o=false:=by unfold je;simp [h0]
  exact End.mk [] (h4:=⟨by rw [this];rfl,rfl⟩)
 have e0:((r:Int) == 0)=false:=by simp [h0]
 have eV:je r o=eu r o 8:=by unfold je;simp [h0]
 (repeat (first | refine SW.seq ?_ | refine SW.block ?_ | refine SW.g0 [0,1,4,5,7,9,22] mixed (e0) ?_ | refine SW.skip ?_ | refine SW.exit ?_ | refine SW.ret ?_ | refine SW.aj rfl ?_ | refine SW.ah rfl ?_));refine SW.gY (α:={i:Nat // i≤8∧eu r o i=true}) (fun i=>⟨[(5,i64 ((2 ^ i.1:Nat):Int)),(0,u8 r),(1,u8 o)],[],0⟩) (fun i=>8 - i.1) ⟨0,by omega,rfl⟩ id af (round:= ?_);rintro ⟨i,hi,hw⟩
 by_cases h:i<8
 ·have hp:0<2 ^ i∧2 ^ i≤128:=⟨Nat.two_pow_pos i,by
   have:=Nat.pow_le_pow_right (show 0<2 by omega) (show i≤7 by omega)
   simpa using this⟩
  have h1:decide ((((2 ^ i:Nat)):Int)<256)=true:=by simp only [decide_eq_true_eq];omega
  have e1:IntKind.u8.wrap ((2 ^ i:Nat):Int)=((2 ^ i:Nat):Int):=wrap_u8' _ (by omega);have e2:IntKind.i64.wrap (2*((2 ^ i:Nat):Int))=((2 ^ (i+1):Nat):Int):=by
   rw [wrap_i64 _ (by omega),Nat.pow_succ];omega
  generalize hg:2 ^ i=g at*;rcases h2:hasB r g with _ | _
  ·(repeat (first | refine SW.seq ?_ | refine SW.block ?_ | (have fx:=(And.intro (h1) (And.intro (e1) (And.intro (e2) (h2))));refine SW.bT [0,1,4,5,7,9,22] mixed ?_;(repeat (first | refine RW.ro fx (h:= ?_) | refine RW.skip (h:= ?_) | refine RW.op fx (h:= ?_) | refine RW.dD fx (h:= ?_) | refine RW.aY (h:= ?_) | (refine RW.aM (h:= ?_);(first | refine ai.mk fx (hc:=gj r _ hr ⟨by omega,by omega⟩ _) (h:= ?_) | refine ai.mk fx (hc:=gj o _ ho ⟨by omega,by omega⟩ _) (h:= ?_)))));refine RW.nil ⟨by kernel_rfl,aq.mk (h:= ?_)⟩) | refine SW.skip ?_ | refine SW.exit ?_ | refine SW.ret ?_ | refine SW.aj rfl ?_ | refine SW.ah rfl ?_))
   refine Next.mk ⟨i+1,by omega,?_⟩ id af;simp only [eu,hw,hg,h2];rfl
  ·rcases h3:hasB o g with _ | _
   ·(repeat (first | refine SW.seq ?_ | refine SW.block ?_ | (have fx:=(And.intro (h1) (And.intro (e1) (And.intro (e2) (And.intro (h2) (h3)))));refine SW.bT [0,1,4,5,7,9,22] mixed ?_;(repeat (first | refine RW.ro fx (h:= ?_) | refine RW.skip (h:= ?_) | refine RW.op fx (h:= ?_) | refine RW.dD fx (h:= ?_) | refine RW.aY (h:= ?_) | (refine RW.aM (h:= ?_);(first | refine ai.mk fx (hc:=gj r _ hr ⟨by omega,by omega⟩ _) (h:= ?_) | refine ai.mk fx (hc:=gj o _ ho ⟨by omega,by omega⟩ _) (h:= ?_)))));refine RW.nil ⟨by kernel_rfl,aq.mk (h:= ?_)⟩) | refine SW.skip ?_ | refine SW.exit ?_ | refine SW.ret ?_ | refine SW.aj rfl ?_ | refine SW.ah rfl ?_))
    have hf:eu r o (i+1)=false:=by simp only [eu,hg,h2,h3];simp
    have:je r o=false:=by rw [eV];exact oB hf 8 (by omega)
    exact End.mk [] (h4:=⟨by rw [this];rfl,rfl⟩)
   ·(repeat (first | refine SW.seq ?_ | refine SW.block ?_ | (have fx:=(And.intro (h1) (And.intro (e1) (And.intro (e2) (And.intro (h2) (h3)))));refine SW.bT [0,1,4,5,7,9,22] mixed ?_;(repeat (first | refine RW.ro fx (h:= ?_) | refine RW.skip (h:= ?_) | refine RW.op fx (h:= ?_) | refine RW.dD fx (h:= ?_) | refine RW.aY (h:= ?_) | (refine RW.aM (h:= ?_);(first | refine ai.mk fx (hc:=gj r _ hr ⟨by omega,by omega⟩ _) (h:= ?_) | refine ai.mk fx (hc:=gj o _ ho ⟨by omega,by omega⟩ _) (h:= ?_)))));refine RW.nil ⟨by kernel_rfl,aq.mk (h:= ?_)⟩) | refine SW.skip ?_ | refine SW.exit ?_ | refine SW.ret ?_ | refine SW.aj rfl ?_ | refine SW.ah rfl ?_))
    refine Next.mk ⟨i+1,by omega,?_⟩ id af;simp only [eu,hw,hg,h2,h3];rfl
 ·have e:i=8:=by omega
  subst e;have h1:decide ((((2 ^ 8:Nat)):Int)<256)=false:=by decide
  (repeat (first | refine SW.seq ?_ | refine SW.block ?_ | (refine SW.bT [0,1,4,5,7,9,22] mixed ?_;(repeat (first | refine RW.ro (h1) (h:= ?_) | refine RW.skip (h:= ?_) | refine RW.op (h1) (h:= ?_) | refine RW.dD (h1) (h:= ?_) | refine RW.aY (h:= ?_) | (refine RW.aM (h:= ?_);(first | refine ai.mk (h1) (hc:=gj r _ hr ⟨by omega,by omega⟩ _) (h:= ?_) | refine ai.mk (h1) (hc:=gj o _ ho ⟨by omega,by omega⟩ _) (h:= ?_)))));refine RW.nil ⟨by kernel_rfl,aq.mk (h:= ?_)⟩) | refine SW.skip ?_ | refine SW.exit ?_ | refine SW.ret ?_ | refine SW.aj rfl ?_ | refine SW.ah rfl ?_));exact End.mk [] (h4:=⟨by rw [eV,hw];rfl,rfl⟩)
theorem gh (r o:Nat)(hr:r<256)(ho:o<256)(k:Nat):aF Tryz.prog ref16_within.f [u8 r,u8 o] [] k 0 (bl (je r o)) []:=(Cu r o hr ho).sc rfl k
theorem ED (l:List ag)(hl:l.length<1000000000)(k:Nat):SB Tryz.prog slices_Clone_Lapi_Op_api_Op.f [ops l] [] k 2 (fun r F'=>r= .gs (k+1) l.length∧F'=[(k+1,.arr 43 29 l.length (jM l))]):=by
 refine slices_Clone_Lapi_Op_api_Op.enter (by first | rfl | simp [SV.ok,SV.ax]) (by first | rfl | simp [Hp.ok,Ob.ok,SV.ok,SV.ax,aB.ak]) (by simp) ?_;dsimp only [slices_Clone_Lapi_Op_api_Op.s,Co.M,Co.J,Co.F,Co.S];refine SW.seq ?_;refine SW.g0 [0,2,4] mixed af ?_;refine SW.seq (SW.seq (SW.Mp (n:=l.length) (cs:=l.flatMap ag.ds) rfl ?_ fun h0=> ?_))
 ·refine SW.ah rfl (SW.skip ?_)
  refine (?_:Sl.SW _ _ _ _ _ _);refine SW.seq ?_;have f1:=cQ (show k≠k+1 by omega);refine SW.g0 [0,2,4] mixed (f1) ?_;refine SW.ret ?_;exact End.mk [(k+1,.arr 43 29 l.length (jM l))] (h3:=HSub.cons (by simp [aa]) (HSub.nil _)) (h4:=⟨rfl,rfl⟩) (h5:=by simp [eH,SV.ok]) (h6:=by simp [Hp.ok,Ob.ok,SV.br])
 ·have hl0:l=[]:=List.eq_nil_of_length_eq_zero h0
  subst hl0;refine SW.aj rfl (SW.seq ?_);refine SW.g0 [0,2,4] mixed af ?_;refine SW.jb 2 43 29 rfl ?_;refine SW.weak (fun n=>if n=k+1 then k else n) (st1:=⟨[(2,.gs (k+1) 0)],[(k+1,.arr 43 29 0 [])],k+2⟩) ?_ ?_
  ·refine ⟨by simp,fun n hn=>by simp;omega,?_,?_,?_⟩
   ·simp [bp,List.lookup,SV.aC,SV.ok]
   ·simp [vZ,Ob.aC,Ob.ok,SV.aT,SV.ax,lk,List.lookup]
   ·simp [Eb]
  refine SW.ret ?_;exact End.mk [(k+1,.arr 43 29 0 [])] (h3:=fun _ _ h=>h) (h4:=⟨rfl,rfl⟩) (h5:=by simp [eH,SV.ok]) (h6:=by simp [Hp.ok,Ob.ok,SV.ax])
theorem EE (l:List ag)(hl:l.length<1000000000)(k:Nat):aF Tryz.prog slices_Clone_Lapi_Op_api_Op.f [ops l] [] k 2 (.gs (k+1) l.length) [(k+1,.arr 43 29 l.length (jM l))]:=by
 unfold aF;refine (ED l hl k).here (fun _=>false) (fun n h=>by cases h) rfl rfl ?_;rintro x F ⟨rfl,rfl⟩ _ _;simp [SV.ok,Hp.ok,Ob.ok,SV.br]
end
end
section
section
variable {σ:Type}
def fW (step:σ→ag→σ×Bool):σ→List ag→Option Nat×σ
 | s,[]=>(none,s)
 | s,x::l=>if (step s x).2 then (some 0,(step s x).1) else ((fW step (step s x).1 l).1.map (· +1),(fW step (step s x).1 l).2)
def bQ (step:σ→ag→σ×Bool):σ→List ag→List ag×σ
 | s,[]=>([],s)
 | s,x::l=>(if (step s x).2 then (bQ step (step s x).1 l).1 else x::(bQ step (step s x).1 l).1,(bQ step (step s x).1 l).2)
theorem pJ (step:σ→ag→σ×Bool):∀ (l:List ag) (s:σ),(bQ step s l).1.length≤l.length
 | [],s=>Nat.le_refl _
 | x::l,s=>by
  have:=pJ step l (step s x).1;simp only [bQ]
  split <;> simp <;> omega
theorem kQ {step:σ→ag→σ×Bool}:∀ {l:List ag} {s:σ},(fW step s l).1=none→bQ step s l=(l,(fW step s l).2)
 | [],s,_=>rfl
 | x ::l,s,h=>by
  simp only [fW] at h ⊢
  by_cases e:(step s x).2=true
  ·rw [if_pos e] at h;cases h
  ·rw [if_neg e] at h ⊢
   have h2:(fW step (step s x).1 l).1=none:=by
    cases hh:(fW step (step s x).1 l).1 with
    | none=>rfl
    | some i=>rw [hh] at h;cases h
   simp only [bQ];rw [kQ h2,if_neg e]
theorem yX {step:σ→ag→σ×Bool}:∀ {l:List ag} {s:σ} {i:Nat},(fW step s l).1=some i→i<l.length∧bQ step s l=(l.take i++(bQ step (fW step s l).2 (l.drop (i+1))).1,(bQ step (fW step s l).2 (l.drop (i+1))).2)
 | [],s,i,h=>by cases h
 | x ::l,s,i,h=>by
  simp only [fW] at h ⊢
  by_cases e:(step s x).2=true
  ·rw [if_pos e] at h ⊢
   injection h with h;subst h;simp [bQ,e]
  ·rw [if_neg e] at h ⊢
   cases hh:(fW step (step s x).1 l).1 with
   | none=>rw [hh] at h;cases h
   | some j=>
    rw [hh] at h;injection h with h;dsimp only at h;subst h;obtain ⟨h1,h2⟩:=yX hh;refine ⟨by simp;omega,?_⟩;simp only [bQ];rw [h2,if_neg e];simp
structure wE (P:Program)(g:Nat)(first cap:List SV)(Fh:σ→Hp)(step:σ→ag→σ×Bool)(aQ:Nat)(I:Nat→σ→Prop)(G:ag→Prop)(B:Nat):Prop where
 nd:∀ s,((Fh s).map (·.1)).Nodup
 nm:∀ s x,(Fh (step s x).1).map (·.1)=(Fh s).map (·.1)
 nx:∀ i s x,I i s→G x→i<B→I (i+1) (step s x).1
 ok:∀ s x q,(Fh s).ok q=true→(Fh (step s x).1).ok q=true
 call:∀ i s x k,I i s→G x→i<B→(Fh s).ok (fun n=>decide (n<k))=true→aF P g (first++[.agg x.cells]++cap) (Fh s) k aQ (bl (step s x).2) (Fh (step s x).1)
 a1:∀ s q,(Fh s).ok q=true→SV.ax q first=true∧SV.ax q cap=true
end
section
attribute [local irreducible] SW RW aF SC ai aq
variable {σ:Type} {g:Nat} {first cap:List SV} {Fh:σ→Hp} {step:σ→ag→σ×Bool} {aQ:Nat} {I:Nat→σ→Prop} {G:ag→Prop} {B:Nat}
def xG (o:Option Nat):SV:=match o with
 | some i=>i64 i
 | none=>i64 (-1)
structure lY (Fh:σ→Hp)(n k:Nat)(s0 s:σ):Prop where
 nm:(Fh s).map (·.1)=(Fh s0).map (·.1)
 ok:(Fh s).ok (fun n=>decide (n<k))=true
 no:lk (Fh s) n=none
theorem lY.mono {n k k':Nat}{s0 s:σ}(h:lY Fh n k s0 s)(hk:k≤k'):lY Fh n k' s0 s:=⟨h.nm,Hp.bB hk h.ok,h.no⟩
theorem lY.next (hd:wE Tryz.prog g first cap Fh step aQ I G B){n k:Nat}{s0 s:σ}(h:lY Fh n k s0 s)(x:ag):lY Fh n k s0 (step s x).1:=
 ⟨(hd.nm s x).trans h.nm,hd.ok s x _ h.ok,iN (by rw [hd.nm s x];exact d_ h.no)⟩
theorem lY.sE {n k:Nat}{s0 s:σ}(h:lY Fh n k s0 s)(hn:n<k){e sz len:Nat}(ds:List DV):Hp.ok (fun n=>decide (n<k)) ((n,.arr e sz len (ds.map SV.d))::Fh s)=true:=an (by simpa using hn) (SV.br _) h.ok
theorem lY.nd (hd:wE Tryz.prog g first cap Fh step aQ I G B){n k:Nat}{s0 s:σ}(h:lY Fh n k s0 s)(o:Ob):(((n,o)::Fh s:Hp).map (·.1)).Nodup:=jN h.no (hd.nd s)
variable (hd:wE Tryz.prog g first cap Fh step aQ I G B)
include hd in
set_option maxHeartbeats 1000000 in
theorem Cv (l:List ag)(s0:σ)(hl:l.length<1000000000)(hB:l.length≤B)(hG:∀ x,x∈l→G x)(hI:I 0 s0)(n k:Nat)(hn:n<k)(h0:lY Fh n k s0 s0):
  SB Tryz.prog slices_IndexFunc_Lapi_Op_api_Op.f [.gs n l.length,.fn (.func g) first cap] ((n,.arr 43 29 l.length (jM l))::Fh s0) k (l.length*aQ)
   (fun r F'=>r=xG (fW step s0 l).1∧F'=(n,.arr 43 29 l.length (jM l))::Fh (fW step s0 l).2):=by
 obtain ⟨o1,o2⟩:=hd.a1 s0 _ h0.ok;refine slices_IndexFunc_Lapi_Op_api_Op.enter (by simp [SV.ok,SV.ax,o1,o2,hn]) (h0.sE hn _) (by simp) ?_;dsimp only [slices_IndexFunc_Lapi_Op_api_Op.s,Co.M,Co.J,Co.F,Co.Z,Co.K,Co.L,Co.Y,Co.V,Co.I,Co.S];refine SW.seq ?_;refine SW.g0 [0,1,4,5,7,8,9,16] mixed af ?_;refine SW.seq (SW.seq ?_);refine SW.g0 [0,1,4,5,7,8,9,16] mixed af ?_;refine SW.block ?_
 refine SW.loop (α:={x:Nat×σ // x.1≤l.length∧I x.1 x.2∧lY Fh n (k+x.1*aQ) s0 x.2∧fW step s0 l=((fW step x.2 (l.drop x.1)).1.map (· +x.1),(fW step x.2 (l.drop x.1)).2)})
  (fun x=>⟨[(8,i64 x.1.1),(7,i64 l.length),(0,.gs n l.length),(1,.fn (.func g) first cap)],(n,.arr 43 29 l.length (jM l))::Fh x.1.2,k+x.1.1*aQ⟩) (fun x=>l.length - x.1.1)
  ⟨(0,s0),by omega,hI,by simpa using h0,by simp⟩ id ?_ ?_
 ·exact aK.same (by simp) (by simp [bp,List.lookup,SV.aC,SV.bV,SV.ok,o1,o2,hn]) (by simpa using h0.sE hn _) (aG (h0.nd hd _))
 rintro ⟨⟨i,s⟩,hi,hIs,hh,he⟩;dsimp only at hi hIs hh he ⊢;have hkk:k≤k+i*aQ:=by omega
 by_cases h:i<l.length
 ·have h1:decide ((i:Int)<l.length)=true:=by simp only [decide_eq_true_eq];omega
  obtain ⟨x,hx⟩:=aZ h;have hdr:l.drop i=x::l.drop (i+1):=by
   rw [List.drop_eq_getElem_cons h];rw [List.getElem?_eq_getElem h] at hx;injection hx with hx;rw [hx]
  have e2:IntKind.i64.wrap ((i:Int)+1)=((i+1:Nat):Int):=wrap_i64 _ (by omega);have hc:=hd.call i s x (k+i*aQ) hIs (hG x (List.mem_of_getElem? hx)) (by omega) hh.ok;have hs:HSub (Fh s) ((n,.arr 43 29 l.length (jM l))::Fh s):=ir hh.no fun _ _ h=>h
  have hm:bZ (b_ ((n,Ob.arr 43 29 l.length (jM l))::Fh s) (Fh (step s x).1) (Fh s)) (Fh (step s x).1)=(n,.arr 43 29 l.length (jM l))::Fh (step s x).1:=
   k9 (pre:=[(n,.arr 43 29 l.length (jM l))]) (hd.nm s x).symm (hh.nd hd _)
  have hh2:=(hh.next hd x).mono (k':=k+i*aQ+aQ) (by omega);have hk2:k+i*aQ+aQ=k+(i+1)*aQ:=by rw [Nat.succ_mul];omega
  rw [hdr] at he;simp only [fW] at he;refine SW.seq ?_;refine SW.g0 [0,1,4,5,7,8,9,16] mixed (h1) ?_;refine SW.seq (SW.aj rfl (SW.skip ?_));refine (?_:Sl.SW _ _ _ _ _ _);refine SW.seq (SW.block (SW.seq ?_));refine SW.g0 [0,1,4,5,7,8,9,16] mixed af ?_;refine SW.seq ?_;rcases hb:(step s x).2 with _ | _
  ·rw [hb] at hc
   refine SW.g1 [0,1,4,5,7,8,9,16] mixed (And.intro (wj hx) (And.intro (oy hx) (hm))) (And.intro hs hc) ?_;refine SW.ah rfl (SW.skip ?_);refine SW.g0 [0,1,4,5,7,8,9,16] mixed (e2) ?_;rw [if_neg (by rw [hb];simp)] at he;have hh3:lY Fh n (k+(i+1)*aQ) s0 (step s x).1:=by rw [← hk2];exact hh2
   refine ⟨⟨(i+1,(step s x).1),by dsimp only;omega,hd.nx i s x hIs (hG x (List.mem_of_getElem? hx)) (by omega),hh3,?_⟩,id,by simp;omega,?_⟩
   ·rw [he]
    simp only [Option.map_map]
    congr 2
    funext j
    simp only [Function.comp];omega
   ·exact aK.same (by simp) (by simp [bp,List.lookup,SV.aC,SV.bV,SV.ok];exact ⟨by omega,(hd.a1 s0 _ (Hp.bB (by omega) h0.ok)).1,(hd.a1 s0 _ (Hp.bB (by omega) h0.ok)).2⟩) (hh3.sE (by omega) _) (aG (hh3.nd hd _))
  ·rw [hb] at hc
   refine SW.g1 [0,1,4,5,7,8,9,16] mixed (And.intro (wj hx) (And.intro (oy hx) (hm))) (And.intro hs hc) ?_;refine SW.aj rfl (SW.seq ?_);have:k+i*aQ+aQ≤k+l.length*aQ:=by
    have:=Nat.mul_le_mul_right aQ (show i+1≤l.length by omega);omega
   refine SW.weak id (st1:=⟨[(5,i64 i)],(n,.arr 43 29 l.length (jM l))::Fh (step s x).1,k+l.length*aQ⟩) (aK.same (by simp) (by simp [bp,List.lookup,SV.aC,SV.ok]) ((hh2.mono this).sE (by omega) _) (aG (hh2.nd hd _))) ?_;refine SW.g0 [0,1,4,5,7,8,9,16] mixed af ?_;rw [if_pos (by rw [hb])] at he;refine SW.ret ?_;rw [he];exact End.mk ((n,.arr 43 29 l.length (jM l))::Fh (step s x).1) (h3:=fun _ _ h=>h) (h4:=⟨by simp [eH,xG],rfl⟩) (h6:=(hh2.mono this).sE (by omega) _)
 ·have h1:decide ((i:Int)<l.length)=false:=by simp only [decide_eq_false_iff_not];omega
  have e:i=l.length:=by omega
  subst e;rw [List.drop_length] at he;refine SW.seq ?_;refine SW.g0 [0,1,4,5,7,8,9,16] mixed (h1) ?_;refine SW.seq (SW.ah rfl (SW.exit ?_));refine (?_:Sl.SW _ _ _ _ _ _);refine SW.seq ?_;refine SW.g0 [0,1,4,5,7,8,9,16] mixed af ?_;refine SW.ret ?_;rw [he];exact End.mk ((n,.arr 43 29 l.length (jM l))::Fh s) (h3:=fun _ _ h=>h) (h4:=⟨rfl,rfl⟩) (h6:=(hh.mono (by omega)).sE (by omega) _)
include hd in
theorem xH {q:Nat→Bool}:∀ (l:List ag) (s:σ),(Fh s).ok q=true→(Fh (fW step s l).2).ok q=true
 | [],s,h=>h
 | x::l,s,h=>by
  simp only [fW]
  split
  ·exact hd.ok s x q h
  ·exact xH l _ (hd.ok s x q h)
include hd in
theorem yY {q:Nat→Bool}:∀ (l:List ag) (s:σ),(Fh s).ok q=true→(Fh (bQ step s l).2).ok q=true
 | [],s,h=>h
 | x::l,s,h=>yY l _ (hd.ok s x q h)
include hd in
theorem tJ:∀ (l:List ag) (s:σ),(Fh (fW step s l).2).map (·.1)=(Fh s).map (·.1)
 | [],s=>rfl
 | x::l,s=>by
  simp only [fW]
  split
  ·exact hd.nm s x
  ·exact (tJ l _).trans (hd.nm s x)
include hd in
theorem EF:∀ (l:List ag) (s:σ) (i:Nat),(∀ x,x∈l→G x)→i+l.length≤B→I i s→∀ j,(fW step s l).1=some j→I (i+j+1) (fW step s l).2
 | [],s,i,_,_,_,j,h=>by cases h
 | x ::l,s,i,hG,hB,hi,j,h=>by
  simp only [List.length_cons] at hB;simp only [fW] at h ⊢
  by_cases e:(step s x).2=true
  ·rw [if_pos e] at h ⊢
   injection h with h;subst h;exact hd.nx i s x hi (hG x (by simp)) (by omega)
  ·rw [if_neg e] at h ⊢
   cases hh:(fW step (step s x).1 l).1 with
   | none=>rw [hh] at h;cases h
   | some q=>
    rw [hh] at h;injection h with h;dsimp only at h;subst h;have:=EF l (step s x).1 (i+1) (fun y hy=>hG y (List.mem_cons_of_mem _ hy)) (by omega) (hd.nx i s x hi (hG x (by simp)) (by omega)) q hh
    rwa [show i+(q+1)+1=i+1+q+1 by omega]
theorem xI {n:Nat}{s:σ}{o:Ob}(ho:∀ q,o.ok q=true)(lJ:(Fh s).ok (fun m=>(lk (Fh s) m).isSome)=true)(hno:lk (Fh s) n=none):Hp.ok (fun m=>(lk ((n,o)::Fh s) m).isSome) ((n,o)::Fh s)=true:=by
 refine an (by simp [aa]) (ho _) (Hp.ez (fun m hm=> ?_) lJ);rw [aa]
 split
 ·rfl
 ·exact hm
include hd in
theorem Cw (l:List ag)(s0:σ)(hl:l.length<1000000000)(hB:l.length≤B)(hG:∀ x,x∈l→G x)(hI:I 0 s0)(n k:Nat)(hn:n<k)(h0:lY Fh n k s0 s0)(lJ:(Fh s0).ok (fun m=>(lk (Fh s0) m).isSome)=true):
  aF Tryz.prog slices_IndexFunc_Lapi_Op_api_Op.f [.gs n l.length,.fn (.func g) first cap] ((n,.arr 43 29 l.length (jM l))::Fh s0) k (l.length*aQ) (xG (fW step s0 l).1) ((n,.arr 43 29 l.length (jM l))::Fh (fW step s0 l).2):=by
 unfold aF;have hq:=xI (n:=n) (o:= .arr 43 29 l.length (jM l)) (fun q=>SV.br _) lJ h0.no;have hq0:(Fh s0).ok (fun m=>(lk ((n,Ob.arr 43 29 l.length (jM l))::Fh s0) m).isSome)=true:=by
  simp only [Hp.ok,List.all_cons,Bool.and_eq_true] at hq ⊢;exact hq.2
 obtain ⟨o1,o2⟩:=hd.a1 s0 _ hq0;refine (Cv hd l s0 hl hB hG hI n k hn h0).here (fun m=>(lk ((n,Ob.arr 43 29 l.length (jM l))::Fh s0) m).isSome) (fun m h e=>by rw [e] at h;cases h) (by simp only [SV.ax,SV.ok,o1,o2,Bool.and_true];simp [aa]) hq ?_;rintro x F ⟨rfl,rfl⟩ _ _;refine ⟨by unfold xG;split <;> rfl,?_⟩;have:=xH hd l s0 hq0;exact an (by simp [aa]) (SV.br _) (Hp.ez (fun m hm=>by rw [hm];rfl) this)
end
end
section
theorem yZ {α:Type}{l:List α}{w:Nat}{x:α}(h:w<l.length):(l.set w x).take (w+1)=l.take w++[x]:=by
 rw [bH (x:=x) (by simp [h]),List.take_set_of_le (Nat.le_refl _)]
theorem set_drop {α:Type}{l:List α}{w j:Nat}{x:α}(h:w<j):(l.set w x).drop j=l.drop j:=by
 rw [List.drop_set_of_lt h]
theorem drop_cons {α:Type}{l:List α}{i:Nat}{x:α}(hx:l[i]? =some x):l.drop i=x::l.drop (i+1):=by
 have h:=iV hx;rw [List.drop_eq_getElem_cons h];rw [List.getElem?_eq_getElem h] at hx;injection hx with hx;rw [hx]
theorem y2 {α:Type}{l m:List α}{j:Nat}{x:α}(h:l.drop j=m.drop j)(hx:m[j]? =some x):l[j]? =some x:=by
 have h1:(l.drop j)[0]? =l[j]? :=by simp
 have h2:(m.drop j)[0]? =m[j]? :=by simp
 rw [← h1,h,h2];exact hx
theorem wF {α:Type}{l m:List α}{j:Nat}(h:l.drop j=m.drop j):l.drop (j+1)=m.drop (j+1):=by
 have:∀ q:List α,q.drop (j+1)=(q.drop j).drop 1:=fun q=>by rw [List.drop_drop]
 rw [this,this,h]
theorem EG (cur:List ag)(w m:Nat)(z:List SV)(hz:z.length=29)(hw:w+m=cur.length):(cN (jM cur) (w*29) ((List.replicate m z).flatten)).take (w*29)=jM (cur.take w):=by
 have hl:((List.replicate m z).flatten).length=m*29:=by simp [hz]
 have hc:(jM cur).length=cur.length*29:=by rw [List.length_map,jc]
 rw [qf (by rw [hl,hc,← hw,Nat.add_mul];exact Nat.le_refl _),List.append_assoc,List.take_append_of_le_length (by rw [List.length_take,hc,← hw,Nat.add_mul];omega),List.take_of_length_le (by rw [List.length_take];omega)];show ((cur.flatMap ag.ds).map SV.d).take (w*29)=_;rw [← List.map_take]
 congr 1
 conv=>lhs;rw [← List.take_append_drop w cur]
 rw [List.flatMap_append,List.take_append_of_le_length,List.take_of_length_le]
 ·rw [jc,List.length_take];exact Nat.mul_le_mul_right 29 (Nat.min_le_left _ _)
 ·rw [jc,List.length_take,Nat.min_eq_left (by omega)];exact Nat.le_refl _
section
attribute [local irreducible] SW RW aF SC ai aq
variable {σ:Type} {g:Nat} {first cap:List SV} {Fh:σ→Hp} {step:σ→ag→σ×Bool} {aQ:Nat} {I:Nat→σ→Prop} {G:ag→Prop} {B:Nat}
variable (hd:wE Tryz.prog g first cap Fh step aQ I G B)
include hd in
set_option maxHeartbeats 4000000 in
theorem AI (l : List ag)(s0:σ)(hl:l.length<1000000000)(hB:l.length≤B)(hG:∀ x,x∈l→G x)(hI:I 0 s0)(n k:Nat)(hn:n<k)(h0:lY Fh n k s0 s0)(lJ:(Fh s0).ok (fun m=>(lk (Fh s0) m).isSome)=true):
    SB Tryz.prog slices_DeleteFunc_Lapi_Op_api_Op.f [.gs n l.length,.fn (.func g) first cap] ((n,.arr 43 29 l.length (jM l))::Fh s0) k (l.length*aQ+l.length*(aQ+1))
      (fun r F'=>r= .gs n (bQ step s0 l).1.length∧F'=(n,.arr 43 29 (bQ step s0 l).1.length (jM (bQ step s0 l).1))::Fh (bQ step s0 l).2):=by
  obtain ⟨o1,o2⟩:=hd.a1 s0 _ h0.ok;have ok1:∀ kx,k≤kx→SV.ax (fun n=>decide (n<kx)) first=true∧SV.ax (fun n=>decide (n<kx)) cap=true:=fun kx hx=>hd.a1 s0 _ (Hp.bB hx h0.ok)
  refine slices_DeleteFunc_Lapi_Op_api_Op.enter (by simp [SV.ok,SV.ax,o1,o2,hn]) (h0.sE hn _) (by simp) ?_;dsimp only [slices_DeleteFunc_Lapi_Op_api_Op.s,Co.M,Co.J,Co.N,Co.F,Co.bF,Co.K,Co.L,Co.Q,Co.W,Co.Y,Co.V,Co.O,Co.I,Co.S];have hx:=Cw hd l s0 hl hB hG hI n k hn h0 lJ;have hm0:bZ (b_ ((n,Ob.arr 43 29 l.length (jM l))::Fh s0) ((n,Ob.arr 43 29 l.length (jM l))::Fh (fW step s0 l).2) (Fh s0)) (Fh (fW step s0 l).2)=(n,Ob.arr 43 29 l.length (jM l))::Fh (fW step s0 l).2:=
    sD (tJ hd l s0).symm (h0.nd hd _)
  have h1s:lY Fh n k s0 (fW step s0 l).2:=⟨tJ hd l s0,xH hd l s0 h0.ok,iN (by rw [tJ hd l s0];exact d_ h0.no)⟩;refine SW.seq ?_;refine SW.g0 [0,1,4,5,6,7,12,19,29] mixed af ?_;refine SW.seq ?_;rcases hi:(fW step s0 l).1 with _ | i
  · have hk:=kQ hi
    rw [hi] at hx;have hx:aF Tryz.prog slices_IndexFunc_Lapi_Op_api_Op.f [.gs n l.length,.fn (.func g) first cap] ((n,.arr 43 29 l.length (jM l))::Fh s0) k (l.length*aQ) (.d (.int .i64 (-1))) ((n,.arr 43 29 l.length (jM l))::Fh (fW step s0 l).2):=hx
    (refine SW.bT [0,1,4,5,6,7,12,19,29] mixed ?_;(repeat (first | refine RW.ro (hm0) (h:= ?_) | refine RW.skip (h:= ?_) | refine RW.op (hm0) (h:= ?_) | refine RW.dD (hm0) (h:= ?_) | refine RW.aY (h:= ?_) | (refine RW.aM (h:= ?_);(first | refine ai.mk (hm0) (hs:=(fun _ _ h=>h)) (hc:=hx) (h:= ?_)))));refine RW.nil ⟨by kernel_rfl,aq.mk (h:= ?_)⟩)
    refine SW.seq (SW.seq ?_);refine SW.g0 [0,1,4,5,6,7,12,19,29] mixed af ?_;refine SW.aj rfl (SW.seq ?_);refine SW.weak id (st1:=⟨[(0,.gs n l.length)],(n,.arr 43 29 l.length (jM l))::Fh (fW step s0 l).2,k+(l.length*aQ+l.length*(aQ+1))⟩) (aK.same (by simp) (by simp [bp,List.lookup,SV.aC,SV.ok];omega) ((h1s.mono (by show k≤k+(l.length*aQ+l.length*(aQ+1));omega)).sE (by show n<k+(l.length*aQ+l.length*(aQ+1));omega) _) (aG (h1s.nd hd _))) ?_;refine SW.g0 [0,1,4,5,6,7,12,19,29] mixed af ?_;refine SW.ret ?_;rw [hk];exact End.mk ((n,.arr 43 29 l.length (jM l))::Fh (fW step s0 l).2) (h3:=fun _ _ h=>h) (h4:=⟨rfl,rfl⟩) (h5:=by simp [eH,SV.ok];omega) (h6:=(h1s.mono (by omega)).sE (by omega) _)
  · obtain ⟨hil,hk⟩:=yX hi
    have hI1:=EF hd l s0 0 hG (by omega) hI i hi;rw [hi] at hx;have hx:aF Tryz.prog slices_IndexFunc_Lapi_Op_api_Op.f [.gs n l.length,.fn (.func g) first cap] ((n,.arr 43 29 l.length (jM l))::Fh s0) k (l.length*aQ) (i64 i) ((n,.arr 43 29 l.length (jM l))::Fh (fW step s0 l).2):=hx;obtain ⟨s1,hs1⟩:∃ s1,(fW step s0 l).2=s1:=⟨_,rfl⟩;rw [hs1] at hx hm0 h1s hk hI1
    (refine SW.bT [0,1,4,5,6,7,12,19,29] mixed ?_;(repeat (first | refine RW.ro (hm0) (h:= ?_) | refine RW.skip (h:= ?_) | refine RW.op (hm0) (h:= ?_) | refine RW.dD (hm0) (h:= ?_) | refine RW.aY (h:= ?_) | (refine RW.aM (h:= ?_);(first | refine ai.mk (hm0) (hs:=(fun _ _ h=>h)) (hc:=hx) (h:= ?_)))));refine RW.nil ⟨by kernel_rfl,aq.mk (h:= ?_)⟩)
    have hne:((i:Int) == -1)=false:=by rw [beq_eq_false_iff_ne];omega
    refine SW.seq (SW.seq ?_);refine SW.g0 [0,1,4,5,6,7,12,19,29] mixed (hne) ?_;refine SW.ah rfl (SW.skip ?_);refine (?_:Sl.SW _ _ _ _ _ _);have e1:IntKind.i64.wrap ((i:Int)+1)=((i+1:Nat):Int):=wrap_i64 _ (by omega);refine SW.seq (SW.seq ?_);refine SW.g0 [0,1,4,5,6,7,12,19,29] mixed (e1) ?_;refine SW.block ?_
    let K0:=k+l.length*aQ
    let Inv:Nat→Nat→List ag→σ→Prop:=fun j w cur s=>(j≤l.length∧w<j∧cur.length=l.length)∧cur.drop j=l.drop j∧I j s∧lY Fh n (K0+j*(aQ+1)) s0 s∧bQ step s0 l=(cur.take w++(bQ step s (l.drop j)).1,(bQ step s (l.drop j)).2)
    refine SW.loop (α:={x:Nat×Nat×List ag×σ // Inv x.1 x.2.1 x.2.2.1 x.2.2.2})
      (fun x=>⟨[(6,i64 x.1.1),(5,i64 x.1.2.1),(0,.gs n l.length),(1,.fn (.func g) first cap)],(n,.arr 43 29 l.length (jM x.1.2.2.1))::Fh x.1.2.2.2,K0+x.1.1*(aQ+1)⟩) (fun x=>l.length - x.1.1)
      ⟨(i+1,i,l,s1),⟨by show i+1≤l.length;omega,by show i<i+1;omega,rfl⟩,rfl,by rw [Nat.zero_add] at hI1;exact hI1,h1s.mono (by show k≤k+l.length*aQ+_;omega),hk⟩ id ?_ ?_
    · refine aK.same (by show k≤k+l.length*aQ+_;omega) (by simp [bp,List.lookup,SV.aC,SV.bV,SV.ok];exact ⟨by show n<k+l.length*aQ+_;omega,ok1 _ (by show k≤k+l.length*aQ+_;omega)⟩) ((h1s.mono (by show k≤k+l.length*aQ+_;omega)).sE (by show n<k+l.length*aQ+_;omega) _) (aG (h1s.nd hd _))
    rintro ⟨⟨j,w,cur,s⟩,⟨hj,hwj,hcl2⟩,hdr,hIs,hh,he⟩;dsimp only at hj hwj hcl2 hdr hIs hh he ⊢;have hKk:k≤K0+j*(aQ+1):=by show k≤k+l.length*aQ+_;omega
    obtain ⟨K,hK⟩:∃ K,K0+j*(aQ+1)=K:=⟨_,rfl⟩;have hK1:K0+(j+1)*(aQ+1)=K+1+aQ:=by rw [← hK,Nat.succ_mul];omega
    rw [hK] at hh hKk ⊢
    by_cases h:j<l.length
    · have h1 : decide ((j:Int)<l.length)=true:=by simp only [decide_eq_true_eq];omega
      obtain ⟨x,hxl⟩:=aZ h;have hxc:cur[j]? =some x:=y2 hdr hxl;have e2:IntKind.i64.wrap ((j:Int)+1)=((j+1:Nat):Int):=wrap_i64 _ (by omega);have e3:IntKind.i64.wrap ((w:Int)+1)=((w+1:Nat):Int):=wrap_i64 _ (by omega);have hGx:=hG x (List.mem_of_getElem? hxl);rw [drop_cons hxl] at he;simp only [bQ] at he;have hfr:lk (Fh s) K=none:=Hp.out hh.ok (Nat.le_refl _);have hfr':List.lookup K (Fh s)=none:=hfr;have f1:=cQ (show K≠n by omega);have hh1:=hh.mono (k':=K+1) (by omega);have hc:=hd.call j s x (K+1) hIs hGx (by omega) hh1.ok;have hs:HSub (Fh s) ((K,.box 43 x.cells)::(n,.arr 43 29 l.length (jM cur))::Fh s):=ir hfr (ir hh.no fun _ _ h=>h);have n9:(((K,Ob.box 43 x.cells)::(n,Ob.arr 43 29 l.length (jM cur))::Fh s:Hp).map (·.1)).Nodup:=jN (by rw [aa,if_neg (by omega)];exact hfr) (hh.nd hd _);have hm:bZ (b_ ((K,Ob.box 43 x.cells)::(n,Ob.arr 43 29 l.length (jM cur))::Fh s) (Fh (step s x).1) (Fh s)) (Fh (step s x).1)=(K,Ob.box 43 x.cells)::(n,.arr 43 29 l.length (jM cur))::Fh (step s x).1:=
        k9 (pre:=[(K,.box 43 x.cells),(n,.arr 43 29 l.length (jM cur))]) (hd.nm s x).symm n9
      have hh2:lY Fh n (K0+(j+1)*(aQ+1)) s0 (step s x).1:=by rw [hK1];exact (hh.next hd x).mono (by omega)
      have hfr2:List.lookup K (Fh (step s x).1)=none:=iN (by rw [hd.nm s x];exact d_ hfr);have hdr2:=wF hdr;refine SW.seq (SW.seq ?_);refine SW.g0 [0,1,4,5,6,7,12,19,29] mixed (h1) ?_;refine SW.aj rfl (SW.skip ?_);refine (?_:Sl.SW _ _ _ _ _ _);refine SW.seq (SW.block (SW.seq ?_));refine SW.g0 [0,1,4,5,6,7,12,19,29] mixed (And.intro (wj hxc) (And.intro (oy hxc) (And.intro (hfr') (f1)))) ?_;refine SW.seq ?_;rcases hb:(step s x).2 with _ | _
      · rw [hb] at hc
        refine SW.g1 [0,1,4,5,6,7,12,19,29] mixed (hm) (And.intro hs hc) ?_;refine SW.aj rfl (SW.seq ?_);have hs1:cN (List.map SV.d (cur.flatMap ag.ds)) (w*29) x.cells=List.map SV.d ((cur.set w x).flatMap ag.ds):=Kx x (by omega);have hs2:(w*29+29≤(List.map SV.d (cur.flatMap ag.ds)).length)=True:=eq_true (by rw [List.length_map,jc,hcl2];omega);refine SW.g0 [0,1,4,5,6,7,12,19,29] mixed (And.intro (hs1) (And.intro (hs2) (f1))) ?_;refine SW.g0 [0,1,4,5,6,7,12,19,29] mixed (e3) ?_;refine SW.g0 [0,1,4,5,6,7,12,19,29] mixed (e2) ?_;rw [if_neg (by rw [hb];simp)] at he;refine ⟨⟨(j+1,w+1,cur.set w x,(step s x).1),⟨by show j+1≤l.length;omega,by show w+1<j+1;omega,by simp [hcl2]⟩,by rw [set_drop (by omega)];exact hdr2,hd.nx j s x hIs hGx (by omega),hh2,?_⟩,id,by simp;omega,?_⟩
        · rw [he,yZ (by omega)];simp
        · exact aK.same (by show k≤k+l.length*aQ+_;omega) (by simp [bp,List.lookup,SV.aC,SV.bV,SV.ok];exact ⟨by show n<k+l.length*aQ+_;omega,ok1 _ (by show k≤k+l.length*aQ+_;omega)⟩) (hh2.sE (by show n<k+l.length*aQ+_;omega) _) (fun y hy=>by
            rw [aa,if_neg ?_]
            · exact aG (hh2.nd hd _) y hy
            · intro e
              rcases List.mem_cons.1 hy with rfl | hy
              · dsimp only at e;omega
              · have:=mC (aG (hd.nd _) y hy)
                rw [e] at this;exact d_ hfr2 this)
      · rw [hb] at hc
        refine SW.g1 [0,1,4,5,6,7,12,19,29] mixed (hm) (And.intro hs hc) ?_;refine SW.ah rfl (SW.skip ?_);refine SW.g0 [0,1,4,5,6,7,12,19,29] mixed (e2) ?_;rw [if_pos (by rw [hb])] at he;refine ⟨⟨(j+1,w,cur,(step s x).1),⟨by show j+1≤l.length;omega,by show w<j+1;omega,hcl2⟩,hdr2,hd.nx j s x hIs hGx (by omega),hh2,he⟩,id,by simp;omega,?_⟩;exact aK.same (by show k≤k+l.length*aQ+_;omega) (by simp [bp,List.lookup,SV.aC,SV.bV,SV.ok];exact ⟨by show n<k+l.length*aQ+_;omega,ok1 _ (by show k≤k+l.length*aQ+_;omega)⟩) (hh2.sE (by show n<k+l.length*aQ+_;omega) _) (fun y hy=>by
            rw [aa,if_neg ?_]
            · exact aG (hh2.nd hd _) y hy
            · intro e
              rcases List.mem_cons.1 hy with rfl | hy
              · dsimp only at e;omega
              · have:=mC (aG (hd.nd _) y hy)
                rw [e] at this;exact d_ hfr2 this)
    · have h1:decide ((j:Int)<l.length)=false:=by simp only [decide_eq_false_iff_not];omega
      have e:j=l.length:=by omega
      rw [e,List.drop_length] at he;simp only [bQ,List.append_nil] at he;have hKe:K=k+(l.length*aQ+l.length*(aQ+1)):=by rw [← hK,e];show k+l.length*aQ+_=_;omega
      rw [e] at h1;refine SW.seq (SW.seq ?_);rw [e];refine SW.g0 [0,1,4,5,6,7,12,19,29] mixed (h1) ?_;refine SW.ah rfl (SW.exit ?_);refine (?_:Sl.SW _ _ _ _ _ _);have e4:(w*29+(l.length - w)*29≤(List.map SV.d (cur.flatMap ag.ds)).length)=True:=eq_true (by
        rw [List.length_map,jc,hcl2,← Nat.add_mul];exact Nat.mul_le_mul_right 29 (by omega))
      refine SW.seq ?_;refine SW.g0 [0,1,4,5,6,7,12,19,29] mixed (e4) ?_;have hz:(ag.zero.cells).length=29:=rfl;have hct:=EG cur w (l.length - w) ag.zero.cells hz (by omega);obtain ⟨Z,hZ⟩:∃ Z,cN (jM cur) (w*29) (List.replicate (l.length - w) ag.zero.cells).flatten=Z:=⟨_,rfl⟩;rw [hZ] at hct;rw [hZ];refine SW.seq ?_;refine SW.g0 [0,1,4,5,6,7,12,19,29] mixed af ?_;refine SW.trim (n:=n) (e:=43) (sz:=29) (len:=l.length) (cs:=Z) w (by simp [aa]) (by omega) ?_;dsimp only;rw [jD,hct,hKe];rw [hKe] at hh;refine SW.ret ?_;rw [he];have hlw:(cur.take w).length=w:=by rw [List.length_take];omega
      exact End.mk ((n,.arr 43 29 w (jM (cur.take w)))::Fh s) (h3:=fun _ _ h=>h) (h4:=⟨by simp [eH,hlw],by simp [hlw]⟩) (h5:=by simp [eH,SV.ok];omega) (h6:=hh.sE (by omega) _)
include hd in
theorem uJ (l:List ag)(s0:σ)(hl:l.length<1000000000)(hB:l.length≤B)(hG:∀ x,x∈l→G x)(hI:I 0 s0)(n k:Nat)(hn:n<k)(h0:lY Fh n k s0 s0)(lJ:(Fh s0).ok (fun m=>(lk (Fh s0) m).isSome)=true):
  aF Tryz.prog slices_DeleteFunc_Lapi_Op_api_Op.f [.gs n l.length,.fn (.func g) first cap] ((n,.arr 43 29 l.length (jM l))::Fh s0) k (l.length*aQ+l.length*(aQ+1)) (.gs n (bQ step s0 l).1.length)
   ((n,.arr 43 29 (bQ step s0 l).1.length (jM (bQ step s0 l).1))::Fh (bQ step s0 l).2):=by
 unfold aF;have hq:=xI (n:=n) (o:= .arr 43 29 l.length (jM l)) (fun q=>SV.br _) lJ h0.no;have hq0:(Fh s0).ok (fun m=>(lk ((n,Ob.arr 43 29 l.length (jM l))::Fh s0) m).isSome)=true:=by
  simp only [Hp.ok,List.all_cons,Bool.and_eq_true] at hq ⊢;exact hq.2
 obtain ⟨o1,o2⟩:=hd.a1 s0 _ hq0;refine (AI hd l s0 hl hB hG hI n k hn h0 lJ).here (fun m=>(lk ((n,Ob.arr 43 29 l.length (jM l))::Fh s0) m).isSome) (fun m h e=>by rw [e] at h;cases h) (by simp only [SV.ax,SV.ok,o1,o2,Bool.and_true];simp [aa]) hq ?_;rintro x F ⟨rfl,rfl⟩ _ _;refine ⟨by simp [SV.ok,aa],?_⟩;have:=yY hd l s0 hq0;exact an (by simp [aa]) (SV.br _) (Hp.ez (fun m hm=>by rw [hm];rfl) this)
end
end
section
structure Tr where
 bx:Nat
 ma:Nat
 mm:Nat
 at_:MM Dt Cr
 ca:Nat
 made:MM Dt ag
 cm:Nat
abbrev Tr.oa (T:Tr):Ob:= .map (au Dt.cells cv T.at_) T.ca
abbrev Tr.om (T:Tr):Ob:= .map (au Dt.cells ov T.made) T.cm
def Tr.hp (T:Tr):Hp:=[(T.bx,.box 166 [.mp T.ma,.mp T.mm]),(T.ma,.map (au Dt.cells cv T.at_) T.ca),(T.mm,.map (au Dt.cells ov T.made) T.cm)]
structure Tr.sep (T:Tr):Prop where
 ab:T.ma≠T.bx
 mb:T.mm≠T.bx
 am:T.ma≠T.mm
structure Tr.lt (T:Tr)(k:Nat):Prop where
 b:T.bx<k
 a:T.ma<k
 m:T.mm<k
theorem Tr.Nu {T:Tr}{q:Nat→Bool}(h1:q T.bx=true)(h2:q T.ma=true)(h3:q T.mm=true):T.hp.ok q=true:=by
 simp only [Tr.hp,Hp.ok,List.all_cons,List.all_nil,Ob.ok,SV.ax,SV.ok,h1,h2,h3,Bool.and_true,Bool.true_and];have a:=gT q T.at_;have b:=bq q T.made;simp only [a,b,Bool.and_true]
theorem Tr.xD {T:Tr}{k:Nat}(h:T.lt k):T.hp.ok (fun n=>decide (n<k))=true:=Tr.Nu (by simpa using h.b) (by simpa using h.a) (by simpa using h.m)
theorem Tr.names (T:Tr):T.hp.map (·.1)=[T.bx,T.ma,T.mm]:=rfl
theorem Tr.nd {T:Tr}(h:T.sep):(T.hp.map (·.1)).Nodup:=by
 have:=h.ab;have:=h.mb;have:=h.am;simp [Tr.names];omega
theorem Tr.JG (T:Tr):lk T.hp T.bx=some (.box 166 [.mp T.ma,.mp T.mm]):=by simp [Tr.hp,aa]
theorem Tr.LQ {T:Tr}(h:T.sep):lk T.hp T.ma=some T.oa:=by
 rw [Tr.hp,aa,if_neg h.ab,aa,if_pos rfl]
theorem Tr.NQ {T:Tr}(h:T.sep):lk T.hp T.mm=some T.om:=by
 rw [Tr.hp,aa,if_neg h.mb,aa,if_neg (Ne.symm h.am),aa,if_pos rfl]
theorem Tr.cl {T:Tr}(h:T.sep):T.hp.ok (fun m=>(lk T.hp m).isSome)=true:=Tr.Nu (by rw [T.JG];rfl) (by rw [Tr.LQ h];rfl) (by rw [Tr.NQ h];rfl)
theorem Tr.out {T:Tr}{m:Nat}(h1:m≠T.bx)(h2:m≠T.ma)(h3:m≠T.mm):lk T.hp m=none:=by
 rw [Tr.hp,aa,if_neg h1,aa,if_neg h2,aa,if_neg h3];rfl
theorem Tr.O8 {T:Tr}{k m:Nat}(h:T.lt k)(hm:k≤m):lk T.hp m=none:=by
 obtain ⟨h1,h2,h3⟩:=h;exact Tr.out (by omega) (by omega) (by omega)
section
attribute [local irreducible] SW RW aF SC ai aq Tr.hp
variable {T:Tr} (hs:T.sep)
include hs in
theorem HP {k:Nat}(hlt:T.lt k):aF Tryz.prog tree_Tree_none.f [.ptr T.bx 0] T.hp k 0 (bl false) T.hp:=by
 refine SB.same ?_ (Tr.cl hs) (by simp [SV.ax,SV.ok,Tr.hp,aa]) (fun _=>rfl);refine tree_Tree_none.enter (by simp [SV.ax,SV.ok];exact hlt.b) (Tr.xD hlt) (by simp) ?_;dsimp only [tree_Tree_none.s,Co.M,Co.G,Co.J,Co.H,Co.F,Co.B,Co.S];have f1:=cQ hs.ab;have u1:List.lookup T.bx T.hp=some (.box 166 [.mp T.ma,.mp T.mm]):=T.JG;have u2:List.lookup T.ma T.hp=some T.oa:=Tr.LQ hs;(repeat (first | refine SW.seq ?_ | refine SW.block ?_ | refine SW.g0 [0,2] mixed (And.intro (f1) (And.intro (u1) (u2))) ?_ | refine SW.skip ?_ | refine SW.exit ?_ | refine SW.ret ?_ | refine SW.aj rfl ?_ | refine SW.ah rfl ?_));exact End.mk T.hp (h3:=fun _ _ h=>h) (h4:=⟨rfl,rfl⟩) (h6:=Tr.xD hlt)
theorem BA (o:ag){b k:Nat}(hb:b<k):aF Tryz.prog tree_Tree_Why_1.f [.ptr b 0] [(b,.box 43 o.cells)] k 0 (bl (decide (o.kind≠1))) [(b,.box 43 o.cells)]:=by
 refine SB.same ?_ (by simp [Hp.ok,Ob.ok,aa]) (by simp [SV.ax,SV.ok,aa]) (fun _=>rfl);refine tree_Tree_Why_1.enter (by simp [SV.ax,SV.ok];exact hb) (by simp [Hp.ok,Ob.ok];exact hb) (by simp) ?_;dsimp only [tree_Tree_Why_1.s,Co.M,Co.J,Co.F,Co.B,Co.b8,Co.T,Co.D,Co.S];have e1:(((o.kind:Nat):Int) != 1)=decide (o.kind≠1):=by
  rw [Bool.eq_iff_iff];simp only [bne_iff_ne,decide_eq_true_eq];omega
 (repeat (first | refine SW.seq ?_ | refine SW.block ?_ | refine SW.g0 [0,1] mixed (e1) ?_ | refine SW.skip ?_ | refine SW.exit ?_ | refine SW.ret ?_ | refine SW.aj rfl ?_ | refine SW.ah rfl ?_));exact End.mk [(b,.box 43 o.cells)] (h3:=fun _ _ h=>h) (h4:=⟨rfl,rfl⟩) (h6:=by simp [Hp.ok,Ob.ok];exact hb)
theorem BB (c:Cr)(o:ag){b b2 k:Nat}(hb:b<k)(G4:b2<k)(hne:b≠b2):aF Tryz.prog tree_Tree_Why_3.f [.ptr b 0,.ptr b2 0] [(b2,.box 43 o.cells),(b,.box 158 c.cells)] k 0 (bl (decide (c.hold≠o.who))) [(b2,.box 43 o.cells),(b,.box 158 c.cells)]:=by
 refine SB.same ?_ (by simp [Hp.ok,Ob.ok,aa,hne]) (by simp [SV.ax,SV.ok,aa,hne]) (fun _=>rfl);refine tree_Tree_Why_3.enter (by simp [SV.ax,SV.ok];omega) (by simp [Hp.ok,Ob.ok];omega) (by simp) ?_;dsimp only [tree_Tree_Why_3.s,Co.M,Co.J,Co.F,Co.B,Co.T,Co.V,Co.D,Co.S];have f1:=cQ hne;have e1:(((c.hold:Nat):Int) != ((o.who:Nat):Int))=decide (c.hold≠o.who):=by
  rw [Bool.eq_iff_iff];simp only [bne_iff_ne,decide_eq_true_eq];omega
 (repeat (first | refine SW.seq ?_ | refine SW.block ?_ | refine SW.g0 [0,1,2] mixed (And.intro (e1) (f1)) ?_ | refine SW.skip ?_ | refine SW.exit ?_ | refine SW.ret ?_ | refine SW.aj rfl ?_ | refine SW.ah rfl ?_));exact End.mk [(b2,.box 43 o.cells),(b,.box 158 c.cells)] (h3:=fun _ _ h=>h) (h4:=⟨rfl,rfl⟩) (h6:=by simp [Hp.ok,Ob.ok];omega)
theorem BC (c:Cr){b k:Nat}(hb:b<k):aF Tryz.prog tree_Tree_Why_4.f [.ptr b 0] [(b,.box 158 c.cells)] k 0 (bl (bits .and .u8 (c.aP:Int) 1 == 0)) [(b,.box 158 c.cells)]:=by
 refine SB.same ?_ (by simp [Hp.ok,Ob.ok,aa]) (by simp [SV.ax,SV.ok,aa]) (fun _=>rfl);refine tree_Tree_Why_4.enter (by simp [SV.ax,SV.ok];exact hb) (by simp [Hp.ok,Ob.ok];exact hb) (by simp) ?_;dsimp only [tree_Tree_Why_4.s,Co.M,Co.J,Co.F,Co.B,Co.b8,Co.T,Co.D,Co.S];(repeat (first | refine SW.seq ?_ | refine SW.block ?_ | refine SW.g0 [0,1] mixed af ?_ | refine SW.skip ?_ | refine SW.exit ?_ | refine SW.ret ?_ | refine SW.aj rfl ?_ | refine SW.ah rfl ?_));exact End.mk [(b,.box 158 c.cells)] (h3:=fun _ _ h=>h) (h4:=⟨rfl,rfl⟩) (h6:=by simp [Hp.ok,Ob.ok];exact hb)
def gV (o:ag)(c:Cr):Bool:=(((o.aP:Int) == 0) || (bits .andNot .u8 (o.aP:Int) (c.aP:Int) != 0)) || ((o.to:Int) == 0) || decide ((o.depth:Int)≥c.depth) || decide ((o.cap:Int)>c.cap)
theorem BD (c:Cr)(o:ag){b b2 k:Nat}(hb:b<k)(G4:b2<k)(hne:b≠b2):aF Tryz.prog tree_Tree_Why_5.f [.ptr b2 0,.ptr b 0] [(b2,.box 43 o.cells),(b,.box 158 c.cells)] k 0 (bl (gV o c)) [(b2,.box 43 o.cells),(b,.box 158 c.cells)]:=by
 refine SB.same ?_ (by simp [Hp.ok,Ob.ok,aa,hne]) (by simp [SV.ax,SV.ok,aa,hne]) (fun _=>rfl);refine tree_Tree_Why_5.enter (by simp [SV.ax,SV.ok];omega) (by simp [Hp.ok,Ob.ok];omega) (by simp) ?_;dsimp only [tree_Tree_Why_5.s,Co.M,Co.J,Co.H,Co.F,Co.B,Co.b8,Co.av,Co.T,Co.D,Co.S];have f1:=cQ hne;rcases h1:((o.aP:Int) == 0) with _ | _
 ·skip
  rcases h2:(bits .andNot .u8 (o.aP:Int) (c.aP:Int) != 0) with _ | _
  ·skip
   rcases h3:((o.to:Int) == 0) with _ | _
   ·skip
    rcases h4:decide ((o.depth:Int)≥c.depth) with _ | _
    ·skip
     (repeat (first | refine SW.seq ?_ | refine SW.block ?_ | refine SW.g0 [0,1,2] mixed (And.intro (h1) (And.intro (h2) (And.intro (h3) (And.intro (h4) (f1))))) ?_ | refine SW.skip ?_ | refine SW.exit ?_ | refine SW.ret ?_ | refine SW.aj rfl ?_ | refine SW.ah rfl ?_));exact End.mk [(b2,.box 43 o.cells),(b,.box 158 c.cells)] (h3:=fun _ _ h=>h) (h4:=⟨by simp only [gV,h1,h2,h3,h4,Bool.false_or,Bool.or_false,Bool.true_or];rfl,rfl⟩) (h6:=by simp [Hp.ok,Ob.ok];omega)
    ·(repeat (first | refine SW.seq ?_ | refine SW.block ?_ | refine SW.g0 [0,1,2] mixed (And.intro (h1) (And.intro (h2) (And.intro (h3) (And.intro (h4) (f1))))) ?_ | refine SW.skip ?_ | refine SW.exit ?_ | refine SW.ret ?_ | refine SW.aj rfl ?_ | refine SW.ah rfl ?_))
     exact End.mk [(b2,.box 43 o.cells),(b,.box 158 c.cells)] (h3:=fun _ _ h=>h) (h4:=⟨by simp only [gV,h1,h2,h3,h4,Bool.false_or,Bool.or_false,Bool.true_or];rfl,rfl⟩) (h6:=by simp [Hp.ok,Ob.ok];omega)
   ·(repeat (first | refine SW.seq ?_ | refine SW.block ?_ | refine SW.g0 [0,1,2] mixed (And.intro (h1) (And.intro (h2) (And.intro (h3) (f1)))) ?_ | refine SW.skip ?_ | refine SW.exit ?_ | refine SW.ret ?_ | refine SW.aj rfl ?_ | refine SW.ah rfl ?_))
    exact End.mk [(b2,.box 43 o.cells),(b,.box 158 c.cells)] (h3:=fun _ _ h=>h) (h4:=⟨by simp only [gV,h1,h2,h3,Bool.false_or,Bool.or_false,Bool.true_or];rfl,rfl⟩) (h6:=by simp [Hp.ok,Ob.ok];omega)
  ·(repeat (first | refine SW.seq ?_ | refine SW.block ?_ | refine SW.g0 [0,1,2] mixed (And.intro (h1) (And.intro (h2) (f1))) ?_ | refine SW.skip ?_ | refine SW.exit ?_ | refine SW.ret ?_ | refine SW.aj rfl ?_ | refine SW.ah rfl ?_))
   exact End.mk [(b2,.box 43 o.cells),(b,.box 158 c.cells)] (h3:=fun _ _ h=>h) (h4:=⟨by simp only [gV,h1,h2,Bool.false_or,Bool.or_false,Bool.true_or];rfl,rfl⟩) (h6:=by simp [Hp.ok,Ob.ok];omega)
 ·(repeat (first | refine SW.seq ?_ | refine SW.block ?_ | refine SW.g0 [0,1,2] mixed (And.intro (h1) (f1)) ?_ | refine SW.skip ?_ | refine SW.exit ?_ | refine SW.ret ?_ | refine SW.aj rfl ?_ | refine SW.ah rfl ?_))
  exact End.mk [(b2,.box 43 o.cells),(b,.box 158 c.cells)] (h3:=fun _ _ h=>h) (h4:=⟨by simp only [gV,h1,Bool.false_or,Bool.or_false,Bool.true_or];rfl,rfl⟩) (h6:=by simp [Hp.ok,Ob.ok];omega)
end
end
end Go.Proofs.YtaelhkkjgfobhaaGreat
