/-
 Shapes: what is well-formed names what it needs (plain).
-/
import Derived.Test.YtaelhkkjgfobhaaGreatUJ
import Derived.Test.YtaelhkkjgfobhaaGreatUE
import Derived.Test.YtaelhkkjgfobhaaGreatU6
import Derived.Test.YtaelhkkjgfobhaaGreatUK
import Derived.Test.YtaelhkkjgfobhaaGreatU5
import Derived.Test.YtaelhkkjgfobhaaGreatUB
import Derived.Test.YtaelhkkjgfobhaaGreatUG
set_option linter.unusedSectionVars false
set_option linter.unusedVariables false
set_option linter.unusedSimpArgs false
namespace Go.Proofs.YtaelhkkjgfobhaaGreat
open Go.Sl Go.Proofs
section
section
variable {l:List ag} {o:ag} (hw:gE l o=0)
include hw
theorem uI (hk:o.kind≠0):∃ c,MM.get (aA l).at_ o.aL=some c∧c.aI=o.aI∧c.hold=o.who∧jZ c o.kind=false:=by
 unfold gE qY at hw;obtain ⟨_,_,h3,_,_⟩:=yR.1 hw;obtain ⟨e1,e2,e3⟩:=h3 hk;obtain ⟨c,a,h1,_,_,_,h5⟩:=yQ.1 e1;rw [h1] at e2 e3;exact ⟨c,h1,h5,Int.ofNat_inj.1 e2,e3⟩
theorem Cl:nI l (aA l).at_ (aA l).made o (fu (aA l).at_ o.aL o.at_ (nH (aA l).at_ o.at_))=true:=by
 unfold gE qY at hw;exact (yR.1 hw).2.2.2.2
theorem yZ (hk:o.kind=2):fu (aA l).at_ o.aL o.at_ (nH (aA l).at_ o.at_)=true:=by
 have:=Cl hw;unfold nI at this;rw [if_pos hk,Bool.and_eq_true] at this;exact this.2
end
end
section
end
section
section
attribute [local irreducible] SW RW aG SC ai aq
theorem Fp (S:Sh):SB Tryz.prog shape_Shape_Tree.f [.ptr 0 0] S.h0 7 0 fun r F=>r= .ptr 4 0∧F=S.h0:=by
 refine shape_Shape_Tree.enter (by simp [SV.ay,SV.ok]) (S.ok (Nat.le_refl 7)) (by simp) ?_
 dsimp only [shape_Shape_Tree.s,Co.M,Co.G,Co.J,Co.H,Co.N,Co.F,Co.C,Co.Z,Co.B,Co.b8,Co.ax,Co.bC,Co.i6,Co.z8,Co.bF]
 (repeat (first | refine SW.seq ?_ | refine SW.block ?_ | refine SW.g1 [0,2,4] mixed af (qV S) ?_ | refine SW.skip ?_ | refine SW.exit ?_ | refine SW.ret ?_ | refine SW.ak rfl ?_ | refine SW.ah rfl ?_))
 exact End.mk S.h0 (h4:=⟨rfl,rfl⟩) (h6:=S.ok (Nat.le_refl 7))
theorem bP.HZ (S:Sh)(k:Nat):aG Tryz.prog shape_Shape_Tree.f [.ptr 10 0] S.kV k 0 (.ptr 2 0) S.kV:=by
 have:=SB.o8 n10.nl (Fp S) (by decide) (fun i hi=>S.Bi i hi) k
 rw [S.EB n10 k] at this;exact this
end
end
section
theorem H6 (l:List ag)(d:Dt)(o:ag):oA l (aA l).at_ d o=((cM l 10 d).2 && (decide ((cM l 10 d).1.aI=o.aI) && nZ l d o)):=by
 obtain ⟨a1,a2⟩:=(eA l).get d;have a1:(cM l 10 d).2=(MM.get (aA l).at_ d).isSome:=a1;unfold oA MM.has;rw [a1];cases h:MM.get (aA l).at_ d with
 | none=>rfl
 | some c=>
  have:=a2 c h;rw [this];rfl
theorem H8 {l:List ag}{d:Dt}{o:ag}(h:oA l (aA l).at_ d o=true):(cM l 10 d).1=(MM.get (aA l).at_ d).getD Cr.zero:=by
 obtain ⟨c,a,h1,_⟩:=yQ.1 h;obtain ⟨_,a2⟩:=(eA l).get d;have:=a2 c h1;rw [this,h1];rfl
theorem Fq (n:Nat):IntKind.u8.wrap (n:Int)=((n % 256:Nat):Int):=by
 unfold IntKind.wrap;simp [IntKind.bits,IntKind.signed]
theorem H9 (m i:Nat):m &&& 2 ^ i=if m.testBit i then 2 ^ i else 0:=by
 apply Nat.eq_of_testBit_eq;intro j;rw [Nat.testBit_and,Nat.testBit_two_pow]
 by_cases e:i=j
 ·subst e;cases h:m.testBit i <;> simp [Nat.testBit_two_pow]
 ·cases h:m.testBit i <;> simp [e,Nat.testBit_two_pow]
theorem Fs {c:Cr}{q:Nat}(h0:q≠0)(h8:q≤8):((IntKind.u8.wrap ((c.aQ:Int).tdiv (fz q:Int))).tmod 2 != 1)=jZ c q∧(fz q:Int)≠0:=by
 have key:∀ i,i≤2→fz q=2 ^ i→((IntKind.u8.wrap ((c.aQ:Int).tdiv (fz q:Int))).tmod 2 != 1)=jZ c q∧(fz q:Int)≠0:=fun i h2i hi=>by
  unfold jZ;rw [hi,and_eq];have e:(c.aQ:Int).tdiv ((2 ^ i:Nat):Int)=((c.aQ / 2 ^ i:Nat):Int):=(Int.ofNat_tdiv _ _).symm;have e2:(((c.aQ / 2 ^ i % 256:Nat):Int)).tmod 2=((c.aQ / 2 ^ i % 256 % 2:Nat):Int):=(Int.ofNat_tmod _ 2).symm;rw [e,Fq,e2,BitVec.toNat_and,BitVec.toNat_ofNat,BitVec.toNat_ofNat,Nat.mod_eq_of_lt (show 2 ^ i<2 ^ 8 from Nat.pow_lt_pow_right (by omega) (by omega)),H9]
  have h3:c.aQ / 2 ^ i % 256 % 2=(c.aQ % 2 ^ 8) / 2 ^ i % 2:=by
   rcases (show i=0∨i=1∨i=2 by omega) with rfl | rfl | rfl <;> simp only [Nat.reducePow] <;> omega
  have h4:(c.aQ % 2 ^ 8).testBit i=decide ((c.aQ % 2 ^ 8) / 2 ^ i % 2=1):=Nat.testBit_eq_decide_div_mod_eq;have hp:=Nat.two_pow_pos i;refine ⟨?_,by omega⟩
  rw [h3,h4];generalize (c.aQ % 2 ^ 8) / 2 ^ i % 2=m
  by_cases hm:m=1
  ·subst hm;simp
  ·rw [decide_eq_false hm,Bool.eq_iff_iff]
   simp only [Bool.false_eq_true,if_false,bne_iff_ne,ne_eq];constructor
   ·intro _;omega
   ·intro _;omega
 rcases (show q=1∨q=2∨q=3∨q=4∨q=5∨q=6∨q=7∨q=8 by omega) with rfl | rfl | rfl | rfl | rfl | rfl | rfl | rfl
 ·exact key 0 (by omega) rfl
 ·exact key 0 (by omega) rfl
 ·exact key 1 (by omega) rfl
 ·exact key 1 (by omega) rfl
 ·exact key 1 (by omega) rfl
 ·exact key 2 (by omega) rfl
 ·exact key 2 (by omega) rfl
 ·exact key 1 (by omega) rfl
noncomputable def oE (l:List ag)(d aI:Dt):Bool:=match aJ l d with
 | some a=>decide (a.kind=3) && (decide (a.aI=aI) && decide (gE l a=0))
 | none=>false
theorem Ft {l:List ag}{a:ag}(h:a.kind=3):gE l a=iF l (aA l).at_ (aA l).made a true:=by
 unfold gE qY;have:nI l (aA l).at_ (aA l).made a (fu (aA l).at_ a.aL a.at_ (nH (aA l).at_ a.at_))=true:=by
  unfold nI;rw [if_neg (by omega),if_neg (by omega),if_neg (by omega),if_neg (by omega)]
 rw [this]
theorem Fu {l:List ag}{s:ag}(h:s.kind=4):gE l s=iF l (aA l).at_ (aA l).made s (mq l (aA l).at_ (aA l).made s.at_ s):=by
 unfold gE qY;have:nI l (aA l).at_ (aA l).made s (fu (aA l).at_ s.aL s.at_ (nH (aA l).at_ s.at_))=mq l (aA l).at_ (aA l).made s.at_ s:=by
  unfold nI;rw [if_neg (by omega),if_pos (.inl h)]
 rw [this]
theorem y2 (l:List ag)(d:Dt)(o:ag):mq l (aA l).at_ (aA l).made d o=(oE l d o.aI && nZ l d o):=by
 unfold mq HJ oE;cases h:aJ l d with
 | none=>rfl
 | some a=>
  dsimp only;rw [eF h]
  by_cases h3:a.kind=3
  ·rw [Ft h3]
   cases decide (a.aI=o.aI) <;> cases nZ l d o <;> simp [h3]
  ·simp [h3]
theorem H_ (l:List ag)(c:Cm)(o:ag):oB l (aA l).at_ (aA l).made c o=((oE l c.line o.aI && nZ l c.line o) && (decide (c.kU=c.line) || (match aJ l c.kU with
  | some s=>decide (s.kind=4) && (decide (s.at_=c.line) && (nZ l c.kU o && decide (gE l s=0)))
  | none=>false))):=by
 unfold oB;rw [y2]
 congr 2
 unfold Fb;cases h:aJ l c.kU with
 | none=>rfl
 | some s=>
  dsimp only
  by_cases h4:s.kind=4
  ·rw [Fu h4]
   by_cases hw:iF l (aA l).at_ (aA l).made s (mq l (aA l).at_ (aA l).made s.at_ s)=0
   ·simp only [h4,hw,and_self,if_true,Option.isSome_some,Option.getD_some,decide_true,Bool.true_and,Bool.and_true]
   ·simp only [hw,and_false,if_false,Option.isSome_none,Bool.false_and,decide_false,Bool.and_false]
  ·simp only [h4,false_and,if_false,Option.isSome_none,Bool.false_and,decide_false]
end
section
section
attribute [local irreducible] SW RW aG SC ai aq fz
variable (l:List ag) (hl:l.length<1000000000)
include hl
theorem oF (d:Dt)(k:Nat):aG Tryz.prog ref10_Find.f [ops l,.agg d.cells] [] k 0 (.dw [.agg (j0 l d).cells,bl (aJ l d).isSome]) []:=pz l (by omega) d k
theorem Kx (d:Dt)(o:ag):Go.Sl.Pure Tryz.prog ref17_before.f [ops l,.agg d.cells,.agg o.cells] (bl (nZ l d o)):=by
 have hf:=oF l hl d;have e:nZ l d o=((aJ l d).isSome && (j0 l d).before o):=rfl;rw [e];obtain ⟨a,ha⟩:∃ a,j0 l d=a:=⟨_,rfl⟩;rw [ha] at hf ⊢;refine ref17_before.enter (by first | rfl | simp [SV.ok,SV.ay]) (by first | rfl | simp [Hp.ok,Ob.ok,SV.ok,SV.ay,aB.aj]) (by simp) ?_
 dsimp only [ref17_before.s,Co.M,Co.G,Co.J,Co.H,Co.N,Co.F,Co.C,Co.Z,Co.B,Co.b8,Co.ax,Co.bC,Co.i6,Co.z8,Co.bF];rcases hi:(aJ l d).isSome with _ | _
 ·(repeat (first | refine SW.seq ?_ | refine SW.block ?_ | refine SW.g2 [0,1,2,4,5,6,7,8] mixed (hi) hf (cq a o) ?_ | refine SW.skip ?_ | refine SW.exit ?_ | refine SW.ret ?_ | refine SW.ak rfl ?_ | refine SW.ah rfl ?_))
  exact End.mk [] (h4:=⟨rfl,rfl⟩)
 ·(repeat (first | refine SW.seq ?_ | refine SW.block ?_ | refine SW.g2 [0,1,2,4,5,6,7,8] mixed (hi) hf (cq a o) ?_ | refine SW.skip ?_ | refine SW.exit ?_ | refine SW.ret ?_ | refine SW.ak rfl ?_ | refine SW.ah rfl ?_))
  exact End.mk [] (h4:=⟨by rw [Bool.true_and];rfl,rfl⟩)
theorem xD (d:Dt)(o:ag)(k:Nat):aG Tryz.prog ref17_before.f [ops l,.agg d.cells,.agg o.cells] [] k 0 (bl (nZ l d o)) []:=(Kx l hl d o).sc rfl k
theorem Cn (o:ag):Go.Sl.Pure Tryz.prog ref17_cart.f [ops l,.agg o.cells] (bl (nR l o)):=by
 have hf:=oF l hl o.aI;refine ref17_cart.enter (by first | rfl | simp [SV.ok,SV.ay]) (by first | rfl | simp [Hp.ok,Ob.ok,SV.ok,SV.ay,aB.aj]) (by simp) ?_
 dsimp only [ref17_cart.s,Co.M,Co.G,Co.J,Co.H,Co.N,Co.F,Co.C,Co.Z,Co.B,Co.b8,Co.ax,Co.bC,Co.i6,Co.z8,Co.bF]
 by_cases hk:o.kind=0
 ·have z:((o.kind:Int) == 0)=true:=by rw [hk];rfl
  have e:nR l o=decide (o.aI=o.dot):=by unfold nR;rw [if_pos hk]
  rw [e]
  (repeat (first | refine SW.seq ?_ | refine SW.block ?_ | refine SW.g0 [0,1,3,4,5,6,9] mixed (z) ?_ | refine SW.skip ?_ | refine SW.exit ?_ | refine SW.ret ?_ | refine SW.ak rfl ?_ | refine SW.ah rfl ?_))
  exact End.mk [] (h4:=⟨rfl,rfl⟩)
 have z:((o.kind:Int) == 0)=false:=by simp;exact hk
 obtain ⟨a,ha⟩:∃ a,j0 l o.aI=a:=⟨_,rfl⟩;have e:nR l o=((aJ l o.aI).isSome && (decide (a.kind=0) && (decide (a.aI=o.aI) && a.before o))):=by
  unfold nR;rw [if_neg hk];cases h:aJ l o.aI with
  | none=>rfl
  | some b=>
   have hb:a=b:=by rw [← ha,eF h]
   rw [eF h,hb,gP h]
 rw [e];rw [ha] at hf;rcases hi:(aJ l o.aI).isSome with _ | _
 ·(repeat (first | refine SW.seq ?_ | refine SW.block ?_ | refine SW.g2 [0,1,3,4,5,6,9] mixed (And.intro (z) (hi)) hf (cq a o) ?_ | refine SW.skip ?_ | refine SW.exit ?_ | refine SW.ret ?_ | refine SW.ak rfl ?_ | refine SW.ah rfl ?_))
  exact End.mk [] (h4:=⟨rfl,rfl⟩)
 by_cases h1:a.kind=0
 rotate_left
 ·have z1:((a.kind:Int) == 0)=false:=by simp;exact h1
  (repeat (first | refine SW.seq ?_ | refine SW.block ?_ | refine SW.g2 [0,1,3,4,5,6,9] mixed (And.intro (z) (And.intro (hi) (z1))) hf (cq a o) ?_ | refine SW.skip ?_ | refine SW.exit ?_ | refine SW.ret ?_ | refine SW.ak rfl ?_ | refine SW.ah rfl ?_))
  exact End.mk [] (h4:=⟨by rw [decide_eq_false h1];rfl,rfl⟩)
 have z1:((a.kind:Int) == 0)=true:=by rw [h1];rfl
 rw [decide_eq_true h1];rcases h2:decide (a.aI=o.aI) with _ | _
 ·(repeat (first | refine SW.seq ?_ | refine SW.block ?_ | refine SW.g2 [0,1,3,4,5,6,9] mixed (And.intro (z) (And.intro (hi) (And.intro (z1) (h2)))) hf (cq a o) ?_ | refine SW.skip ?_ | refine SW.exit ?_ | refine SW.ret ?_ | refine SW.ak rfl ?_ | refine SW.ah rfl ?_))
  exact End.mk [] (h4:=⟨rfl,rfl⟩)
 ·(repeat (first | refine SW.seq ?_ | refine SW.block ?_ | refine SW.g2 [0,1,3,4,5,6,9] mixed (And.intro (z) (And.intro (hi) (And.intro (z1) (h2)))) hf (cq a o) ?_ | refine SW.skip ?_ | refine SW.exit ?_ | refine SW.ret ?_ | refine SW.ak rfl ?_ | refine SW.ah rfl ?_))
  exact End.mk [] (h4:=⟨by simp only [Bool.true_and];rfl,rfl⟩)
theorem Cp (o:ag)(k:Nat):aG Tryz.prog ref17_cart.f [ops l,.agg o.cells] [] k 0 (bl (nR l o)) []:=(Cn l hl o).sc rfl k
variable (hr:∀ x,x∈l→x.aQ<256)
include hr
set_option maxHeartbeats 4000000 in
theorem Cq (d:Dt)(o:ag):Go.Sl.Pure Tryz.prog ref17_cred.f [ops l,.agg d.cells,.agg o.cells] (.dw [.agg (cM l 10 d).1.cells,bl (oA l (aA l).at_ d o)]):=by
 have hg:=xl (by omega) hr d
 have hb:=xD l hl d o;rw [H6];obtain ⟨⟨c,is⟩,hc⟩:∃ p,cM l 10 d=p:=⟨_,rfl⟩;rw [hc] at hg ⊢;dsimp only at hg ⊢;obtain ⟨bf,hbf⟩:∃ b,nZ l d o=b:=⟨_,rfl⟩;rw [hbf] at hb ⊢;refine ref17_cred.enter (by first | rfl | simp [SV.ok,SV.ay]) (by first | rfl | simp [Hp.ok,Ob.ok,SV.ok,SV.ay,aB.aj]) (by simp) ?_
 dsimp only [ref17_cred.s,Co.M,Co.G,Co.J,Co.H,Co.N,Co.F,Co.C,Co.Z,Co.B,Co.b8,Co.ax,Co.bC,Co.i6,Co.z8,Co.bF];refine SW.seq ?_;refine SW.g0 [0,1,2,4,5,6,7,8,9] mixed af ?_;refine SW.seq ?_;refine SW.g1 [0,1,2,4,5,6,7,8,9] mixed af hg ?_;refine SW.seq ?_;cases is with
 | false=>
  refine SW.g1 [0,1,2,4,5,6,7,8,9] mixed af hb ?_;refine SW.ret ?_;exact End.mk [] (h1:=by first | rfl | simp [BT,lk,List.lookup,zB];rfl) (h4:=⟨rfl,rfl⟩)
 | true=>
  rcases h2:decide (c.aI=o.aI) with _ | _
  ·refine SW.g1 [0,1,2,4,5,6,7,8,9] mixed (h2) hb ?_
   refine SW.ret ?_;exact End.mk [] (h4:=⟨rfl,rfl⟩)
  ·refine SW.g1 [0,1,2,4,5,6,7,8,9] mixed (h2) hb ?_
   refine SW.ret ?_;exact End.mk [] (h4:=⟨by simp only [Bool.true_and];rfl,rfl⟩)
theorem wk (d:Dt)(o:ag)(k:Nat):aG Tryz.prog ref17_cred.f [ops l,.agg d.cells,.agg o.cells] [] k 0 (.dw [.agg (cM l 10 d).1.cells,bl (oA l (aA l).at_ d o)]) []:=(Cq l hl hr d o).sc rfl k
end
section
attribute [local irreducible] SW RW aG SC ai aq
theorem Cs (q:Nat)(hq:q≤8):Go.Sl.Pure Tryz.prog ref17_Needs.f [u8 q] (u8 (fz q)):=by
 rcases (show q=0∨q=1∨q=2∨q=3∨q=4∨q=5∨q=6∨q=7∨q=8 by omega) with rfl | rfl | rfl | rfl | rfl | rfl | rfl | rfl | rfl
 all_goals
  refine ref17_Needs.enter (by first | rfl | simp [SV.ok,SV.ay]) (by first | rfl | simp [Hp.ok,Ob.ok,SV.ok,SV.ay,aB.aj]) (by simp) ?_
  dsimp only [ref17_Needs.s,Co.M,Co.G,Co.J,Co.H,Co.N,Co.F,Co.C,Co.Z,Co.B,Co.b8,Co.ax,Co.bC,Co.i6,Co.z8,Co.bF]
  (repeat (first | refine SW.seq ?_ | refine SW.block ?_ | refine SW.g0 [0,2,3,4,7,12] mixed af ?_ | refine SW.skip ?_ | refine SW.exit ?_ | refine SW.ret ?_ | refine SW.ak rfl ?_ | refine SW.ah rfl ?_))
  exact End.mk [] (h4:=⟨rfl,rfl⟩)
theorem Ct (q:Nat)(hq:q≤8)(k:Nat):aG Tryz.prog ref17_Needs.f [u8 q] [] k 0 (u8 (fz q)) []:=(Cs q hq).sc rfl k
end
section
attribute [local irreducible] SW RW aG SC ai aq fz
variable (l:List ag) (hl:l.length<1000000000) (hr:∀ x,x∈l→x.aQ<256)
include hl hr
set_option maxHeartbeats 8000000 in
theorem oG (o:ag)(ho:o.aQ<256)(t:Bool)(ht:∀ k,aG Tryz.prog ref17_target.f [ops l,.agg o.cells] [] k 0 (bl t) [])(h0:o.kind=0→t=true):
  Go.Sl.Pure Tryz.prog ref17_Why.f [ops l,.agg o.cells] (i64 (iF l (aA l).at_ (aA l).made o t)):=by
 have hct:=Cp l hl o;have hcd:=wk l hl hr o.aL o;refine ref17_Why.enter (by first | rfl | simp [SV.ok,SV.ay]) (by first | rfl | simp [Hp.ok,Ob.ok,SV.ok,SV.ay,aB.aj]) (by simp) ?_
 dsimp only [ref17_Why.s,Co.M,Co.G,Co.J,Co.H,Co.N,Co.F,Co.C,Co.Z,Co.B,Co.b8,Co.ax,Co.bC,Co.i6,Co.z8,Co.bF];refine SW.seq ?_;refine SW.g0 [0,1,3,4,5,6,9,13,16,26,31,39,48,52] mixed af ?_;refine SW.seq (SW.seq ?_)
 by_cases h8:(o.kind:Int)>8
 ·have e:iF l (aA l).at_ (aA l).made o t=2:=by unfold iF;rw [decide_eq_true h8];rfl
  rw [e];have g:=decide_eq_true h8
  (repeat (first | refine SW.seq ?_ | refine SW.block ?_ | refine SW.g0 [0,1,3,4,5,6,9,13,16,26,31,39,48,52] mixed (g) ?_ | refine SW.skip ?_ | refine SW.exit ?_ | refine SW.ret ?_ | refine SW.ak rfl ?_ | refine SW.ah rfl ?_))
  exact End.mk [] (h4:=⟨rfl,rfl⟩)
 have g8:=decide_eq_false h8;refine SW.g0 [0,1,3,4,5,6,9,13,16,26,31,39,48,52] mixed (g8) ?_;refine SW.ah rfl (SW.skip ?_);refine SW.seq (SW.seq ?_);rcases hc:nR l o with _ | _
 ·have e:iF l (aA l).at_ (aA l).made o t=271:=by unfold iF;rw [g8,hc];rfl
  rw [e];rw [hc] at hct
  (repeat (first | refine SW.seq ?_ | refine SW.block ?_ | refine SW.g1 [0,1,3,4,5,6,9,13,16,26,31,39,48,52] mixed af hct ?_ | refine SW.skip ?_ | refine SW.exit ?_ | refine SW.ret ?_ | refine SW.ak rfl ?_ | refine SW.ah rfl ?_))
  exact End.mk [] (h4:=⟨rfl,rfl⟩)
 rw [hc] at hct;refine SW.g1 [0,1,3,4,5,6,9,13,16,26,31,39,48,52] mixed af hct ?_;refine SW.ah rfl (SW.skip ?_);refine SW.seq (SW.seq ?_)
 by_cases lQ:o.kind=0
 ·have z:((o.kind:Int) == 0)=true:=by rw [lQ];rfl
  have e:iF l (aA l).at_ (aA l).made o t=0:=by
   unfold iF;rw [g8,hc,z,lQ,uC,h0 lQ];rfl
  rw [e]
  (repeat (first | refine SW.seq ?_ | refine SW.block ?_ | refine SW.g0 [0,1,3,4,5,6,9,13,16,26,31,39,48,52] mixed (z) ?_ | refine SW.skip ?_ | refine SW.exit ?_ | refine SW.ret ?_ | refine SW.ak rfl ?_ | refine SW.ah rfl ?_))
  exact End.mk [] (h4:=⟨rfl,rfl⟩)
 have z:((o.kind:Int) == 0)=false:=by simp;exact lQ
 refine SW.g0 [0,1,3,4,5,6,9,13,16,26,31,39,48,52] mixed (z) ?_;refine SW.ah rfl (SW.skip ?_);refine SW.seq ?_;rcases hd:oA l (aA l).at_ o.aL o with _ | _
 ·have e:iF l (aA l).at_ (aA l).made o t=272:=by unfold iF;rw [g8,hc,z,hd];rfl
  rw [e];rw [hd] at hcd;refine SW.g1 [0,1,3,4,5,6,9,13,16,26,31,39,48,52] mixed af hcd ?_
  (repeat (first | refine SW.seq ?_ | refine SW.block ?_ | refine SW.g0 [0,1,3,4,5,6,9,13,16,26,31,39,48,52] mixed af ?_ | refine SW.skip ?_ | refine SW.exit ?_ | refine SW.ret ?_ | refine SW.ak rfl ?_ | refine SW.ah rfl ?_))
  exact End.mk [] (h4:=⟨rfl,rfl⟩)
 rw [hd,H8 hd] at hcd;obtain ⟨c,hcr⟩:∃ c,(MM.get (aA l).at_ o.aL).getD Cr.zero=c:=⟨_,rfl⟩;rw [hcr] at hcd;refine SW.g1 [0,1,3,4,5,6,9,13,16,26,31,39,48,52] mixed af hcd ?_;refine SW.seq (SW.seq ?_);refine SW.g0 [0,1,3,4,5,6,9,13,16,26,31,39,48,52] mixed af ?_;refine SW.ah rfl (SW.skip ?_);refine SW.seq (SW.seq ?_);rcases hh:((c.hold:Int) != (o.who:Int)) with _ | _
 rotate_left
 ·have e:iF l (aA l).at_ (aA l).made o t=273:=by unfold iF;rw [g8,hc,z,hd,hcr,hh];rfl
  rw [e]
  (repeat (first | refine SW.seq ?_ | refine SW.block ?_ | refine SW.g0 [0,1,3,4,5,6,9,13,16,26,31,39,48,52] mixed (hh) ?_ | refine SW.skip ?_ | refine SW.exit ?_ | refine SW.ret ?_ | refine SW.ak rfl ?_ | refine SW.ah rfl ?_))
  exact End.mk [] (h4:=⟨rfl,rfl⟩)
 refine SW.g0 [0,1,3,4,5,6,9,13,16,26,31,39,48,52] mixed (hh) ?_;refine SW.ah rfl (SW.skip ?_);refine SW.seq (SW.seq ?_);have hk8:o.kind≤8:=by omega
 obtain ⟨hq1,hq2⟩:=Fs (c:=c) lQ hk8;have hn:=Ct o.kind hk8;obtain ⟨nv,hnv⟩:∃ nv,fz o.kind=nv:=⟨_,rfl⟩;rw [hnv] at hq1 hq2 hn;rcases hb:jZ c o.kind with _ | _
 rotate_left
 ·have e:iF l (aA l).at_ (aA l).made o t=274:=by unfold iF;rw [g8,hc,z,hd,hcr,hh,hb];rfl
  rw [e];rw [hb] at hq1;refine SW.g1 [0,1,3,4,5,6,9,13,16,26,31,39,48,52] mixed (hq1) hn ?_
  (repeat (first | refine SW.seq ?_ | refine SW.block ?_ | refine SW.g0 [0,1,3,4,5,6,9,13,16,26,31,39,48,52] mixed af ?_ | refine SW.skip ?_ | refine SW.exit ?_ | refine SW.ret ?_ | refine SW.ak rfl ?_ | refine SW.ah rfl ?_))
  exact End.mk [] (h4:=⟨rfl,rfl⟩)
 rw [hb] at hq1;refine SW.g1 [0,1,3,4,5,6,9,13,16,26,31,39,48,52] mixed (hq1) hn ?_;refine SW.ah rfl (SW.skip ?_);refine SW.seq (SW.seq ?_);have hw:=Ht (by omega) hr o ho
 have Di:=HL l o;rw [← Di] at hw;obtain ⟨w,hww⟩:∃ w,v8 (aA l).at_ (aA l).made o=w:=⟨_,rfl⟩;rw [hww] at hw
 by_cases h1:o.kind=1
 ·have z1:((o.kind:Int) == 1)=true:=by rw [h1];rfl
  by_cases hw0:w=0
  rotate_left
  ·have zw:((w:Int) != 0)=true:=by simp;exact hw0
   have e:iF l (aA l).at_ (aA l).made o t=275:=by
    unfold iF;rw [g8,hc,z,hd,hcr,hh,hb,hww,decide_eq_true h1,decide_eq_true hw0];rfl
   rw [e];refine SW.g1 [0,1,3,4,5,6,9,13,16,26,31,39,48,52] mixed (And.intro (z1) (zw)) hw ?_
   (repeat (first | refine SW.seq ?_ | refine SW.block ?_ | refine SW.g0 [0,1,3,4,5,6,9,13,16,26,31,39,48,52] mixed af ?_ | refine SW.skip ?_ | refine SW.exit ?_ | refine SW.ret ?_ | refine SW.ak rfl ?_ | refine SW.ah rfl ?_))
   exact End.mk [] (h4:=⟨rfl,rfl⟩)
  have zw:((w:Int) != 0)=false:=by simp;exact hw0
  have e:iF l (aA l).at_ (aA l).made o t=if !t then 276 else 0:=by
   unfold iF;rw [g8,hc,z,hd,hcr,hh,hb,hww,decide_eq_true h1,decide_eq_false (fun h=>h hw0)];rfl
  rw [e];refine SW.g1 [0,1,3,4,5,6,9,13,16,26,31,39,48,52] mixed (And.intro (z1) (zw)) hw ?_;refine SW.ah rfl (SW.skip ?_);cases t
  ·(repeat (first | refine SW.seq ?_ | refine SW.block ?_ | refine SW.g1 [0,1,3,4,5,6,9,13,16,26,31,39,48,52] mixed af ht ?_ | refine SW.skip ?_ | refine SW.exit ?_ | refine SW.ret ?_ | refine SW.ak rfl ?_ | refine SW.ah rfl ?_))
   exact End.mk [] (h4:=⟨rfl,rfl⟩)
  ·(repeat (first | refine SW.seq ?_ | refine SW.block ?_ | refine SW.g1 [0,1,3,4,5,6,9,13,16,26,31,39,48,52] mixed af ht ?_ | refine SW.skip ?_ | refine SW.exit ?_ | refine SW.ret ?_ | refine SW.ak rfl ?_ | refine SW.ah rfl ?_))
   exact End.mk [] (h4:=⟨rfl,rfl⟩)
 have z1:((o.kind:Int) == 1)=false:=by simp;omega
 have e:iF l (aA l).at_ (aA l).made o t=if !t then 276 else 0:=by
  unfold iF;rw [g8,hc,z,hd,hcr,hh,hb,decide_eq_false h1];rfl
 rw [e];refine SW.g0 [0,1,3,4,5,6,9,13,16,26,31,39,48,52] mixed (z1) ?_;refine SW.ah rfl (SW.skip ?_);cases t
 ·(repeat (first | refine SW.seq ?_ | refine SW.block ?_ | refine SW.g1 [0,1,3,4,5,6,9,13,16,26,31,39,48,52] mixed af ht ?_ | refine SW.skip ?_ | refine SW.exit ?_ | refine SW.ret ?_ | refine SW.ak rfl ?_ | refine SW.ah rfl ?_))
  exact End.mk [] (h4:=⟨rfl,rfl⟩)
 ·(repeat (first | refine SW.seq ?_ | refine SW.block ?_ | refine SW.g1 [0,1,3,4,5,6,9,13,16,26,31,39,48,52] mixed af ht ?_ | refine SW.skip ?_ | refine SW.exit ?_ | refine SW.ret ?_ | refine SW.ak rfl ?_ | refine SW.ah rfl ?_))
  exact End.mk [] (h4:=⟨rfl,rfl⟩)
end
end
end Go.Proofs.YtaelhkkjgfobhaaGreat
