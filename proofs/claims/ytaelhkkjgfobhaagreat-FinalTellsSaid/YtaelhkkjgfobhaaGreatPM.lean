/-
 Shapes: the document's lines, versions, targets; why.
-/
import Derived.Test.YtaelhkkjgfobhaaGreatP6
import Derived.Test.YtaelhkkjgfobhaaGreatPL
import Derived.Test.YtaelhkkjgfobhaaGreatPE
set_option linter.unusedSectionVars false
set_option linter.unusedVariables false
set_option linter.unusedSimpArgs false
namespace Go.Proofs.YtaelhkkjgfobhaaGreat
open Go.Sl Go.Proofs
section
theorem K8 {l:List ag}{o:ag}{ab:Bool}(h:o.kind=2):nR l (aA l).at_ (aA l).made o ab=(oE l (aA l).at_ o.at_ o && ab):=by unfold nR;rw [if_pos h]
theorem K9 {l:List ag}{o:ag}{ab:Bool}(h:o.kind=4∨o.kind=5):nR l (aA l).at_ (aA l).made o ab=mF l (aA l).at_ (aA l).made o.at_ o:=by unfold nR;rw [if_neg (by omega),if_pos h]
theorem K_ {l:List ag}{o:ag}{ab:Bool}(h:o.kind=6∨o.kind=7):nR l (aA l).at_ (aA l).made o ab=oF l (aA l).at_ (aA l).made ⟨o.at_,o.lC⟩ o:=by unfold nR;rw [if_neg (by omega),if_neg (by omega),if_pos h]
theorem La {l:List ag}{o:ag}{ab:Bool}(h:o.kind=8):nR l (aA l).at_ (aA l).made o ab= !(o.cl.any fun c=> !oF l (aA l).at_ (aA l).made c o):=by unfold nR;rw [if_neg (by omega),if_neg (by omega),if_neg (by omega),if_pos h]
theorem Lb {l:List ag}{o:ag}{ab:Bool}(h:o.kind≠2∧ ¬ (4≤o.kind∧o.kind≤8)):nR l (aA l).at_ (aA l).made o ab=true:=by unfold nR;rw [if_neg (by omega),if_neg (by omega),if_neg (by omega),if_neg (by omega)]
section
attribute [local irreducible] SW RW aF SC ai aq
variable (l:List ag) (hl:l.length<1000000000) (hr:∀ x,x∈l→x.aP<256)
include hl hr
set_option maxHeartbeats 4000000 in
theorem IK (o:ag)(h:o.kind≠2∧ ¬ (4≤o.kind∧o.kind≤8)):Go.Sl.Pure Tryz.prog ref17_target.f [ops l,.agg o.cells] (bl true):=by
 have q2:((o.kind:Int) == 2)=false:=by simp;omega
 have q4:((o.kind:Int) == 4)=false:=by simp;omega
 have q5:((o.kind:Int) == 5)=false:=by simp;omega
 have q6:((o.kind:Int) == 6)=false:=by simp;omega
 have q7:((o.kind:Int) == 7)=false:=by simp;omega
 have q8:((o.kind:Int) == 8)=false:=by simp;omega
 refine ref17_target.enter (by first | rfl | simp [SV.ok,SV.ax]) (by first | rfl | simp [Hp.ok,Ob.ok,SV.ok,SV.ax,aB.ak]) (by simp) ?_;dsimp only [ref17_target.s,Co.M,Co.G,Co.J,Co.H,Co.F,Co.C,Co.Z,Co.B,Co.b8,Co.av,Co.bC,Co.i6,Co.T,Co.K,Co.E,Co.L,Co.R,Co.x,Co.W,Co.Y,Co.V,Co.U,Co.O,Co.D,Co.I,Co.S];(repeat (first | refine SW.seq ?_ | refine SW.block ?_ | refine SW.g0 [0,1,3,4,6,7,9,10,29,45,55,61,79] mixed (And.intro (q2) (And.intro (q4) (And.intro (q5) (And.intro (q6) (And.intro (q7) (q8)))))) ?_ | refine SW.skip ?_ | refine SW.exit ?_ | refine SW.ret ?_ | refine SW.aj rfl ?_ | refine SW.ah rfl ?_));exact End.mk [] (h4:=⟨rfl,rfl⟩)
theorem BT (o:ag)(ho:o.aP<256)(h:o.kind≠2∧ ¬ (4≤o.kind∧o.kind≤8))(k:Nat):aF Tryz.prog ref17_Why.f [ops l,.agg o.cells] [] k 0 (i64 (gI l o)) []:=by
 have:=(oL l hl hr o ho true (fun k=>(IK l hl hr o h).sc rfl k) (fun _=>rfl)).sc rfl k;unfold gI rB;rw [Lb h];exact this
set_option maxHeartbeats 4000000 in
theorem CU (d c:Dt):Go.Sl.Pure Tryz.prog ref17_Line.f [ops l,.agg d.cells,.agg c.cells] (bl (oJ l d c)):=by
 have hf:=oK l hl d;unfold oJ;refine ref17_Line.enter (by first | rfl | simp [SV.ok,SV.ax]) (by first | rfl | simp [Hp.ok,Ob.ok,SV.ok,SV.ax,aB.ak]) (by simp) ?_;dsimp only [ref17_Line.s,Co.M,Co.G,Co.J,Co.H,Co.F,Co.C,Co.Z,Co.B,Co.b8,Co.bF,Co.K,Co.E,Co.Q,Co.x,Co.W,Co.U,Co.S];cases hh:aS l d with
 | none=>
  rw [hh] at hf;(repeat (first | refine SW.seq ?_ | refine SW.block ?_ | refine SW.g1 [0,1,2,4,5,6,7,8] mixed af hf ?_ | refine SW.skip ?_ | refine SW.exit ?_ | refine SW.ret ?_ | refine SW.aj rfl ?_ | refine SW.ah rfl ?_));exact End.mk [] (h4:=⟨rfl,rfl⟩)
 | some a=>
  rw [hh,eM hh] at hf;dsimp only
  by_cases h3:a.kind=3
  rotate_left
  ·have z:((a.kind:Int) == 3)=false:=by simp;omega
   rw [decide_eq_false h3];(repeat (first | refine SW.seq ?_ | refine SW.block ?_ | refine SW.g1 [0,1,2,4,5,6,7,8] mixed (z) hf ?_ | refine SW.skip ?_ | refine SW.exit ?_ | refine SW.ret ?_ | refine SW.aj rfl ?_ | refine SW.ah rfl ?_));exact End.mk [] (h4:=⟨rfl,rfl⟩)
  have z:((a.kind:Int) == 3)=true:=by rw [h3];rfl
  rw [decide_eq_true h3];have hw:=BT l hl hr a (hr a (kZ hh).1) (by omega);obtain ⟨w,hww⟩:∃ w,gI l a=w:=⟨_,rfl⟩;rw [hww] at hw ⊢;have hz:((w:Int) == 0)=decide (w=0):=by rw [Bool.eq_iff_iff];simp
  rcases h2:decide (a.aH=c) with _ | _
  ·(repeat (first | refine SW.seq ?_ | refine SW.block ?_ | refine SW.g2 [0,1,2,4,5,6,7,8] mixed (And.intro (z) (h2)) hf hw ?_ | refine SW.skip ?_ | refine SW.exit ?_ | refine SW.ret ?_ | refine SW.aj rfl ?_ | refine SW.ah rfl ?_))
   exact End.mk [] (h4:=⟨rfl,rfl⟩)
  ·(repeat (first | refine SW.seq ?_ | refine SW.block ?_ | refine SW.g2 [0,1,2,4,5,6,7,8] mixed (And.intro (z) (And.intro (h2) (hz))) hf hw ?_ | refine SW.skip ?_ | refine SW.exit ?_ | refine SW.ret ?_ | refine SW.aj rfl ?_ | refine SW.ah rfl ?_))
   exact End.mk [] (h4:=⟨by simp only [Bool.true_and];rfl,rfl⟩)
theorem wQ (d c:Dt)(k:Nat):aF Tryz.prog ref17_Line.f [ops l,.agg d.cells,.agg c.cells] [] k 0 (bl (oJ l d c)) []:=(CU l hl hr d c).sc rfl k
set_option maxHeartbeats 4000000 in
theorem IL (o:ag)(h:o.kind=4∨o.kind=5):Go.Sl.Pure Tryz.prog ref17_target.f [ops l,.agg o.cells] (bl (mF l (aA l).at_ (aA l).made o.at_ o)):=by
 have hL:=wQ l hl hr o.at_ o.aH;have hb:=xW l hl o.at_ o;rw [zp];obtain ⟨x,hx⟩:∃ x,oJ l o.at_ o.aH=x:=⟨_,rfl⟩;obtain ⟨y,hy⟩:∃ y,oe l o.at_ o=y:=⟨_,rfl⟩;rw [hx] at hL ⊢;rw [hy] at hb ⊢;have q2:((o.kind:Int) == 2)=false:=by simp;omega
 refine ref17_target.enter (by first | rfl | simp [SV.ok,SV.ax]) (by first | rfl | simp [Hp.ok,Ob.ok,SV.ok,SV.ax,aB.ak]) (by simp) ?_;dsimp only [ref17_target.s,Co.M,Co.G,Co.J,Co.H,Co.F,Co.C,Co.Z,Co.B,Co.b8,Co.av,Co.bC,Co.i6,Co.T,Co.K,Co.E,Co.L,Co.R,Co.x,Co.W,Co.Y,Co.V,Co.U,Co.O,Co.D,Co.I,Co.S]
 by_cases h4:o.kind=4
 ·have q4:((o.kind:Int) == 4)=true:=by rw [h4];rfl
  cases x
  ·(repeat (first | refine SW.seq ?_ | refine SW.block ?_ | refine SW.g2 [0,1,3,4,6,7,9,10,29,45,55,61,79] mixed (And.intro (q2) (q4)) hL hb ?_ | refine SW.skip ?_ | refine SW.exit ?_ | refine SW.ret ?_ | refine SW.aj rfl ?_ | refine SW.ah rfl ?_))
   exact End.mk [] (h4:=⟨rfl,rfl⟩)
  ·(repeat (first | refine SW.seq ?_ | refine SW.block ?_ | refine SW.g2 [0,1,3,4,6,7,9,10,29,45,55,61,79] mixed (And.intro (q2) (q4)) hL hb ?_ | refine SW.skip ?_ | refine SW.exit ?_ | refine SW.ret ?_ | refine SW.aj rfl ?_ | refine SW.ah rfl ?_))
   exact End.mk [] (h4:=⟨by simp only [Bool.true_and];rfl,rfl⟩)
 ·have q4:((o.kind:Int) == 4)=false:=by simp;omega
  have q5:((o.kind:Int) == 5)=true:=by rw [h.resolve_left h4];rfl
  cases x
  ·(repeat (first | refine SW.seq ?_ | refine SW.block ?_ | refine SW.g2 [0,1,3,4,6,7,9,10,29,45,55,61,79] mixed (And.intro (q2) (And.intro (q4) (q5))) hL hb ?_ | refine SW.skip ?_ | refine SW.exit ?_ | refine SW.ret ?_ | refine SW.aj rfl ?_ | refine SW.ah rfl ?_))
   exact End.mk [] (h4:=⟨rfl,rfl⟩)
  ·(repeat (first | refine SW.seq ?_ | refine SW.block ?_ | refine SW.g2 [0,1,3,4,6,7,9,10,29,45,55,61,79] mixed (And.intro (q2) (And.intro (q4) (q5))) hL hb ?_ | refine SW.skip ?_ | refine SW.exit ?_ | refine SW.ret ?_ | refine SW.aj rfl ?_ | refine SW.ah rfl ?_))
   exact End.mk [] (h4:=⟨by simp only [Bool.true_and];rfl,rfl⟩)
theorem zq (o:ag)(ho:o.aP<256)(h:o.kind=4∨o.kind=5)(k:Nat):aF Tryz.prog ref17_Why.f [ops l,.agg o.cells] [] k 0 (i64 (gI l o)) []:=by
 have:=(oL l hl hr o ho _ (fun k=>(IL l hl hr o h).sc rfl k) (fun h0=>by omega)).sc rfl k;unfold gI rB;rw [K9 h];exact this
set_option maxHeartbeats 4000000 in
theorem CV (d v:Dt)(o:ag):Go.Sl.Pure Tryz.prog ref17_version.f [ops l,.agg d.cells,.agg v.cells,.agg o.cells] (bl (oF l (aA l).at_ (aA l).made ⟨d,v⟩ o)):=by
 have hL:=wQ l hl hr d o.aH;have hb:=xW l hl d o;have hv:=xW l hl v o;have hf:=oK l hl v;rw [IJ];dsimp only;obtain ⟨x,hx⟩:∃ x,oJ l d o.aH=x:=⟨_,rfl⟩;obtain ⟨y,hy⟩:∃ y,oe l d o=y:=⟨_,rfl⟩;rw [hx] at hL ⊢;rw [hy] at hb ⊢;refine ref17_version.enter (by first | rfl | simp [SV.ok,SV.ax]) (by first | rfl | simp [Hp.ok,Ob.ok,SV.ok,SV.ax,aB.ak]) (by simp) ?_;dsimp only [ref17_version.s,Co.M,Co.G,Co.J,Co.H,Co.F,Co.C,Co.Z,Co.B,Co.b8,Co.bF,Co.K,Co.E,Co.Q,Co.R,Co.x,Co.W,Co.U,Co.O,Co.D,Co.S];refine SW.seq ?_;refine SW.g0 [0,1,2,3,5,6,7,8,9,10,23,26] mixed af ?_;refine SW.seq (SW.seq ?_);cases x
 ·refine SW.g2 [0,1,2,3,5,6,7,8,9,10,23,26] mixed af hL hb ?_
  (repeat (first | refine SW.seq ?_ | refine SW.block ?_ | refine SW.g0 [0,1,2,3,5,6,7,8,9,10,23,26] mixed af ?_ | refine SW.skip ?_ | refine SW.exit ?_ | refine SW.ret ?_ | refine SW.aj rfl ?_ | refine SW.ah rfl ?_));exact End.mk [] (h4:=⟨rfl,rfl⟩)
 cases y
 ·refine SW.g2 [0,1,2,3,5,6,7,8,9,10,23,26] mixed af hL hb ?_
  (repeat (first | refine SW.seq ?_ | refine SW.block ?_ | refine SW.g0 [0,1,2,3,5,6,7,8,9,10,23,26] mixed af ?_ | refine SW.skip ?_ | refine SW.exit ?_ | refine SW.ret ?_ | refine SW.aj rfl ?_ | refine SW.ah rfl ?_));exact End.mk [] (h4:=⟨rfl,rfl⟩)
 refine SW.g2 [0,1,2,3,5,6,7,8,9,10,23,26] mixed af hL hb ?_;refine SW.ah rfl (SW.skip ?_);refine SW.seq (SW.seq ?_);rcases e1:decide (v=d) with _ | _
 rotate_left
 ·(repeat (first | refine SW.seq ?_ | refine SW.block ?_ | refine SW.g0 [0,1,2,3,5,6,7,8,9,10,23,26] mixed (e1) ?_ | refine SW.skip ?_ | refine SW.exit ?_ | refine SW.ret ?_ | refine SW.aj rfl ?_ | refine SW.ah rfl ?_))
  exact End.mk [] (h4:=⟨rfl,rfl⟩)
 refine SW.g0 [0,1,2,3,5,6,7,8,9,10,23,26] mixed (e1) ?_;refine SW.ah rfl (SW.skip ?_);cases hh:aS l v with
 | none=>
  rw [hh] at hf;(repeat (first | refine SW.seq ?_ | refine SW.block ?_ | refine SW.g1 [0,1,2,3,5,6,7,8,9,10,23,26] mixed af hf ?_ | refine SW.skip ?_ | refine SW.exit ?_ | refine SW.ret ?_ | refine SW.aj rfl ?_ | refine SW.ah rfl ?_));exact End.mk [] (h4:=⟨rfl,rfl⟩)
 | some s=>
  rw [hh,eM hh] at hf;dsimp only
  by_cases h4:s.kind=4
  rotate_left
  ·have z:((s.kind:Int) == 4)=false:=by simp;omega
   rw [decide_eq_false h4];(repeat (first | refine SW.seq ?_ | refine SW.block ?_ | refine SW.g1 [0,1,2,3,5,6,7,8,9,10,23,26] mixed (z) hf ?_ | refine SW.skip ?_ | refine SW.exit ?_ | refine SW.ret ?_ | refine SW.aj rfl ?_ | refine SW.ah rfl ?_));exact End.mk [] (h4:=⟨rfl,rfl⟩)
  have z:((s.kind:Int) == 4)=true:=by rw [h4];rfl
  rw [decide_eq_true h4];have hw:=zq l hl hr s (hr s (kZ hh).1) (.inl h4);obtain ⟨w,hww⟩:∃ w,gI l s=w:=⟨_,rfl⟩;rw [hww] at hw ⊢;have hz:((w:Int) == 0)=decide (w=0):=by rw [Bool.eq_iff_iff];simp
  obtain ⟨u,hu⟩:∃ u,oe l v o=u:=⟨_,rfl⟩;rw [hu] at hv ⊢;rcases h2:decide (s.at_=d) with _ | _
  ·(repeat (first | refine SW.seq ?_ | refine SW.block ?_ | refine SW.g4 [0,1,2,3,5,6,7,8,9,10,23,26] mixed (And.intro (z) (h2)) hf hv hw trivial ?_ | refine SW.skip ?_ | refine SW.exit ?_ | refine SW.ret ?_ | refine SW.aj rfl ?_ | refine SW.ah rfl ?_))
   exact End.mk [] (h4:=⟨rfl,rfl⟩)
  cases u
  ·(repeat (first | refine SW.seq ?_ | refine SW.block ?_ | refine SW.g4 [0,1,2,3,5,6,7,8,9,10,23,26] mixed (And.intro (z) (h2)) hf hv hw trivial ?_ | refine SW.skip ?_ | refine SW.exit ?_ | refine SW.ret ?_ | refine SW.aj rfl ?_ | refine SW.ah rfl ?_))
   exact End.mk [] (h4:=⟨rfl,rfl⟩)
  ·(repeat (first | refine SW.seq ?_ | refine SW.block ?_ | refine SW.g4 [0,1,2,3,5,6,7,8,9,10,23,26] mixed (And.intro (z) (And.intro (h2) (hz))) hf hv hw trivial ?_ | refine SW.skip ?_ | refine SW.exit ?_ | refine SW.ret ?_ | refine SW.aj rfl ?_ | refine SW.ah rfl ?_))
   exact End.mk [] (h4:=⟨by simp only [Bool.true_and,Bool.false_or];rfl,rfl⟩)
theorem wR (d v:Dt)(o:ag)(k:Nat):aF Tryz.prog ref17_version.f [ops l,.agg d.cells,.agg v.cells,.agg o.cells] [] k 0 (bl (oF l (aA l).at_ (aA l).made ⟨d,v⟩ o)) []:=(CV l hl hr d v o).sc rfl k
end
end
section
theorem BU {l:List Cm}{i:Nat}{x:Cm}(h:l[i]? =some x):List.take 2 (List.drop (i*4) (List.map SV.d (l.flatMap Cm.ds)))=x.line.cells:=by
 have:=tK h;rw [← x.s0,← this,List.take_take];rfl
theorem FW {l:List Cm}{i:Nat}{x:Cm}(h:l[i]? =some x):List.take 2 (List.drop (i*4+2) (List.map SV.d (l.flatMap Cm.ds)))=x.lC.cells:=by
 have:=tK h;rw [← x.s2,← this,List.drop_take,List.take_take,List.drop_drop];rfl
theorem zu {l:List Cm}{i:Nat}{x:Cm}(h:l[i]? =some x):(i*4+2≤(List.map SV.d (l.flatMap Cm.ds)).length)=True:=eq_true (by
 have:=of_eq_true (pM h);omega)
theorem zx {l:List Cm}{i:Nat}{x:Cm}(h:l[i]? =some x):(i*4+2+2≤(List.map SV.d (l.flatMap Cm.ds)).length)=True:=eq_true (by
 have:=of_eq_true (pM h);omega)
section
attribute [local irreducible] SW RW aF SC ai aq
variable (l:List ag) (hl:l.length<1000000000) (hr:∀ x,x∈l→x.aP<256)
include hl hr
set_option maxHeartbeats 4000000 in
theorem IN (o:ag)(h:o.kind=6∨o.kind=7):Go.Sl.Pure Tryz.prog ref17_target.f [ops l,.agg o.cells] (bl (oF l (aA l).at_ (aA l).made ⟨o.at_,o.lC⟩ o)):=by
 have hv:=wR l hl hr o.at_ o.lC o;obtain ⟨x,hx⟩:∃ x,oF l (aA l).at_ (aA l).made ⟨o.at_,o.lC⟩ o=x:=⟨_,rfl⟩;rw [hx] at hv ⊢;have q2:((o.kind:Int) == 2)=false:=by simp;omega
 have q4:((o.kind:Int) == 4)=false:=by simp;omega
 have q5:((o.kind:Int) == 5)=false:=by simp;omega
 refine ref17_target.enter (by first | rfl | simp [SV.ok,SV.ax]) (by first | rfl | simp [Hp.ok,Ob.ok,SV.ok,SV.ax,aB.ak]) (by simp) ?_;dsimp only [ref17_target.s,Co.M,Co.G,Co.J,Co.H,Co.F,Co.C,Co.Z,Co.B,Co.b8,Co.av,Co.bC,Co.i6,Co.T,Co.K,Co.E,Co.L,Co.R,Co.x,Co.W,Co.Y,Co.V,Co.U,Co.O,Co.D,Co.I,Co.S]
 by_cases h6:o.kind=6
 ·have q6:((o.kind:Int) == 6)=true:=by rw [h6];rfl
  (repeat (first | refine SW.seq ?_ | refine SW.block ?_ | refine SW.g1 [0,1,3,4,6,7,9,10,29,45,55,61,79] mixed (And.intro (q2) (And.intro (q4) (And.intro (q5) (q6)))) hv ?_ | refine SW.skip ?_ | refine SW.exit ?_ | refine SW.ret ?_ | refine SW.aj rfl ?_ | refine SW.ah rfl ?_));exact End.mk [] (h4:=⟨rfl,rfl⟩)
 ·have q6:((o.kind:Int) == 6)=false:=by simp;omega
  have q7:((o.kind:Int) == 7)=true:=by rw [h.resolve_left h6];rfl
  (repeat (first | refine SW.seq ?_ | refine SW.block ?_ | refine SW.g1 [0,1,3,4,6,7,9,10,29,45,55,61,79] mixed (And.intro (q2) (And.intro (q4) (And.intro (q5) (And.intro (q6) (q7))))) hv ?_ | refine SW.skip ?_ | refine SW.exit ?_ | refine SW.ret ?_ | refine SW.aj rfl ?_ | refine SW.ah rfl ?_));exact End.mk [] (h4:=⟨rfl,rfl⟩)
set_option maxHeartbeats 4000000 in
theorem IP (o:ag)(h:o.kind=2):Go.Sl.Pure Tryz.prog ref17_target.f [ops l,.agg o.cells] (bl (oE l (aA l).at_ o.at_ o && fG (aA l).at_ o.aN o.at_ (nQ (aA l).at_ o.at_))):=by
 have hc:=wP l hl hr o.at_ o;obtain ⟨L,hL,hlen,_⟩:=(eE l).tn o.at_;have ha:=CM (by omega) hr (eE l) o.aN o.at_ L hL (by omega);rw [gy hL];obtain ⟨x,hx⟩:∃ x,oE l (aA l).at_ o.at_ o=x:=⟨_,rfl⟩;obtain ⟨y,hy⟩:∃ y,fG (aA l).at_ o.aN o.at_ L=y:=⟨_,rfl⟩;obtain ⟨c,hcc⟩:∃ c,(c_ l 10 o.at_).1=c:=⟨_,rfl⟩;rw [hx,hcc] at hc;rw [hx,hy];rw [hy] at ha;have q2:((o.kind:Int) == 2)=true:=by rw [h];rfl
 refine ref17_target.enter (by first | rfl | simp [SV.ok,SV.ax]) (by first | rfl | simp [Hp.ok,Ob.ok,SV.ok,SV.ax,aB.ak]) (by simp) ?_;dsimp only [ref17_target.s,Co.M,Co.G,Co.J,Co.H,Co.F,Co.C,Co.Z,Co.B,Co.b8,Co.av,Co.bC,Co.i6,Co.T,Co.K,Co.E,Co.L,Co.R,Co.x,Co.W,Co.Y,Co.V,Co.U,Co.O,Co.D,Co.I,Co.S];cases x
 ·(repeat (first | refine SW.seq ?_ | refine SW.block ?_ | refine SW.g2 [0,1,3,4,6,7,9,10,29,45,55,61,79] mixed (q2) hc ha ?_ | refine SW.skip ?_ | refine SW.exit ?_ | refine SW.ret ?_ | refine SW.aj rfl ?_ | refine SW.ah rfl ?_))
  exact End.mk [] (h4:=⟨rfl,rfl⟩)
 ·(repeat (first | refine SW.seq ?_ | refine SW.block ?_ | refine SW.g2 [0,1,3,4,6,7,9,10,29,45,55,61,79] mixed (q2) hc ha ?_ | refine SW.skip ?_ | refine SW.exit ?_ | refine SW.ret ?_ | refine SW.aj rfl ?_ | refine SW.ah rfl ?_))
  exact End.mk [] (h4:=⟨by simp only [Bool.true_and];rfl,rfl⟩)
set_option maxHeartbeats 4000000 in
theorem IQ (o:ag)(h:o.kind=8)(xN:o.mN):Go.Sl.Pure Tryz.prog ref17_target.f [ops l,.agg o.cells] (bl (!(o.cl.any fun c=> !oF l (aA l).at_ (aA l).made c o))):=by
 have q2:((o.kind:Int) == 2)=false:=by simp;omega
 have q4:((o.kind:Int) == 4)=false:=by simp;omega
 have q5:((o.kind:Int) == 5)=false:=by simp;omega
 have q6:((o.kind:Int) == 6)=false:=by simp;omega
 have q7:((o.kind:Int) == 7)=false:=by simp;omega
 have q8:((o.kind:Int) == 8)=true:=by rw [h];rfl
 have hle:=xN.eq;have hll:=xN.le;refine ref17_target.enter (by first | rfl | simp [SV.ok,SV.ax]) (by first | rfl | simp [Hp.ok,Ob.ok,SV.ok,SV.ax,aB.ak]) (by simp) ?_;dsimp only [ref17_target.s,Co.M,Co.G,Co.J,Co.H,Co.F,Co.C,Co.Z,Co.B,Co.b8,Co.av,Co.bC,Co.i6,Co.T,Co.K,Co.E,Co.L,Co.R,Co.x,Co.W,Co.Y,Co.V,Co.U,Co.O,Co.D,Co.I,Co.S];(repeat (first | refine SW.seq ?_ | refine SW.block ?_ | refine SW.g0 [0,1,3,4,6,7,9,10,29,45,55,61,79] mixed (And.intro (q2) (And.intro (q4) (And.intro (q5) (And.intro (q6) (And.intro (q7) (q8)))))) ?_ | refine SW.skip ?_ | refine SW.exit ?_ | refine SW.ret ?_ | refine SW.aj rfl ?_ | refine SW.ah rfl ?_));refine SW.gY (α:={j:Nat // j≤o.cl.length∧∀ c,c∈o.cl.take j→oF l (aA l).at_ (aA l).made c o=true}) (fun j=>⟨[(7,i64 j.1),(3,.ptr 0 0),(0,ops l)],[(0,.box 43 o.cells)],1⟩) (fun j=>o.cl.length - j.1) ⟨0,by omega,by simp⟩ id af (round:= ?_);rintro ⟨j,hj,hall⟩;dsimp only;refine SW.seq (SW.seq ?_)
 by_cases hjl:j<o.cl.length
 ·have j1:decide ((j:Int)<o.cl.length)=true:=by simp only [decide_eq_true_eq];omega
  obtain ⟨y,hy⟩:=aZ hjl;have j2:IntKind.i64.wrap ((j:Int)+1)=((j+1:Nat):Int):=wrap_i64 _ (by omega);have hv:=wR l hl hr y.line y.lC o;refine SW.g0 [0,1,3,4,6,7,9,10,29,45,55,61,79] mixed (And.intro (hle) (j1)) ?_;refine SW.aj rfl (SW.skip ?_);refine SW.seq (SW.block (SW.seq ?_));rcases hc:oF l (aA l).at_ (aA l).made y o with _ | _
  ·rw [show (⟨y.line,y.lC⟩:Cm)=y from rfl,hc] at hv
   refine SW.g1 [0,1,3,4,6,7,9,10,29,45,55,61,79] mixed (And.intro (hle) (And.intro (BU hy) (And.intro (zu hy) (And.intro (FW hy) (zx hy))))) hv ?_;have e:(o.cl.any fun c=> !oF l (aA l).at_ (aA l).made c o)=true:=by
    rw [List.any_eq_true];exact ⟨y,List.mem_of_getElem? hy,by rw [hc];rfl⟩
   rw [e];(repeat (first | refine SW.seq ?_ | refine SW.block ?_ | refine SW.g0 [0,1,3,4,6,7,9,10,29,45,55,61,79] mixed af ?_ | refine SW.skip ?_ | refine SW.exit ?_ | refine SW.ret ?_ | refine SW.aj rfl ?_ | refine SW.ah rfl ?_));exact End.mk [] (h4:=⟨rfl,rfl⟩)
  ·rw [show (⟨y.line,y.lC⟩:Cm)=y from rfl,hc] at hv
   refine SW.g1 [0,1,3,4,6,7,9,10,29,45,55,61,79] mixed (And.intro (hle) (And.intro (BU hy) (And.intro (zu hy) (And.intro (FW hy) (zx hy))))) hv ?_;refine SW.ah rfl (SW.skip ?_);refine SW.g0 [0,1,3,4,6,7,9,10,29,45,55,61,79] mixed (j2) ?_;dsimp only;exact ⟨⟨j+1,by omega,fun c Ee=>by
    rw [bH hy] at Ee;rcases List.mem_append.1 Ee with Ee | Ee
    ·exact hall c Ee
    ·rw [List.mem_singleton.1 Ee];exact hc⟩,id,by show o.cl.length - (j+1)<_;omega,aK.mk af⟩
 ·have j1:decide ((j:Int)<o.cl.length)=false:=by simp only [decide_eq_false_iff_not];omega
  have e:(o.cl.any fun c=> !oF l (aA l).at_ (aA l).made c o)=false:=by
   rw [List.any_eq_false];intro c hc;rw [hall c (by rw [List.take_of_length_le (by omega)];exact hc)];simp
  rw [e];refine SW.g0 [0,1,3,4,6,7,9,10,29,45,55,61,79] mixed (And.intro (hle) (j1)) ?_;refine SW.ah rfl (SW.exit ?_);(repeat (first | refine SW.seq ?_ | refine SW.block ?_ | refine SW.g0 [0,1,3,4,6,7,9,10,29,45,55,61,79] mixed af ?_ | refine SW.skip ?_ | refine SW.exit ?_ | refine SW.ret ?_ | refine SW.aj rfl ?_ | refine SW.ah rfl ?_));exact End.mk [] (h4:=⟨rfl,rfl⟩)
theorem FX (o:ag)(ho:o.aP<256)(xN:o.mN)(k:Nat):aF Tryz.prog ref17_Why.f [ops l,.agg o.cells] [] k 0 (i64 (gI l o)) []:=by
 by_cases hn:o.kind≠2∧ ¬ (4≤o.kind∧o.kind≤8)
 ·exact BT l hl hr o ho hn k
 by_cases h4:o.kind=4∨o.kind=5
 ·exact zq l hl hr o ho h4 k
 by_cases h2:o.kind=2
 ·have:=(oL l hl hr o ho _ (fun k=>(IP l hl hr o h2).sc rfl k) (fun h0=>by omega)).sc rfl k
  unfold gI rB;rw [K8 h2];exact this
 by_cases h6:o.kind=6∨o.kind=7
 ·have:=(oL l hl hr o ho _ (fun k=>(IN l hl hr o h6).sc rfl k) (fun h0=>by omega)).sc rfl k
  unfold gI rB;rw [K_ h6];exact this
 have h8:o.kind=8:=by omega
 have:=(oL l hl hr o ho _ (fun k=>(IQ l hl hr o h8 xN).sc rfl k) (fun h0=>by omega)).sc rfl k;unfold gI rB;rw [La h8];exact this
end
end
section
section
attribute [local irreducible] SW RW aF SC ai aq
variable (l:List ag) (hl:l.length≤80) (hd:∀ x,x∈l→x.aP<256∧x.mN∧x.dot.wf)
include hl hd
set_option maxHeartbeats 4000000 in
theorem CW (d:Dt):Go.Sl.Pure Tryz.prog ref17_Good.f [ops l,.agg d.cells] (bl (match aS l d with
  | some o=>decide (gI l o=0)
  | none=>false)):=by
 have hf:=oK l (by omega) d;refine ref17_Good.enter (by first | rfl | simp [SV.ok,SV.ax]) (by first | rfl | simp [Hp.ok,Ob.ok,SV.ok,SV.ax,aB.ak]) (by simp) ?_;dsimp only [ref17_Good.s,Co.M,Co.G,Co.J,Co.H,Co.F,Co.C,Co.Z,Co.B,Co.bF,Co.K,Co.E,Co.Q,Co.x,Co.W,Co.U,Co.S];cases hh:aS l d with
 | none=>
  rw [hh] at hf;(repeat (first | refine SW.seq ?_ | refine SW.block ?_ | refine SW.g1 [0,1,3,4,5,6] mixed af hf ?_ | refine SW.skip ?_ | refine SW.exit ?_ | refine SW.ret ?_ | refine SW.aj rfl ?_ | refine SW.ah rfl ?_));exact End.mk [] (h4:=⟨rfl,rfl⟩)
 | some o=>
  rw [hh,eM hh] at hf;have ho:=hd o (kZ hh).1;have hw:=FX l (by omega) (fun x hx=>(hd x hx).1) o ho.1 ho.2.1;dsimp only;obtain ⟨w,hww⟩:∃ w,gI l o=w:=⟨_,rfl⟩;rw [hww] at hw ⊢;have hz:((w:Int) == 0)=decide (w=0):=by rw [Bool.eq_iff_iff];simp
  (repeat (first | refine SW.seq ?_ | refine SW.block ?_ | refine SW.g2 [0,1,3,4,5,6] mixed (hz) hf hw ?_ | refine SW.skip ?_ | refine SW.exit ?_ | refine SW.ret ?_ | refine SW.aj rfl ?_ | refine SW.ah rfl ?_));exact End.mk [] (h4:=⟨rfl,rfl⟩)
theorem CX (d:Dt)(k:Nat):aF Tryz.prog ref17_Good.f [ops l,.agg d.cells] [] k 0 (bl (match aS l d with
  | some o=>decide (gI l o=0)
  | none=>false)) []:=(CW l hl hd d).sc rfl k
end
end
end Go.Proofs.YtaelhkkjgfobhaaGreat
