/-
 Shapes: what is well-formed names what it needs (plain).
-/
import Derived.Test.YtaelhkkjgfobhaaGreatPJ
import Derived.Test.YtaelhkkjgfobhaaGreatPE
import Derived.Test.YtaelhkkjgfobhaaGreatP6
import Derived.Test.YtaelhkkjgfobhaaGreatPK
import Derived.Test.YtaelhkkjgfobhaaGreatP5
import Derived.Test.YtaelhkkjgfobhaaGreatPB
import Derived.Test.YtaelhkkjgfobhaaGreatPG
set_option linter.unusedSectionVars false
set_option linter.unusedVariables false
set_option linter.unusedSimpArgs false
namespace Go.Proofs.YtaelhkkjgfobhaaGreat
open Go.Sl Go.Proofs
section
section
variable {l:List ag} {o:ag} (hw:gI l o=0)
include hw
theorem uY (hk:o.kind≠0):∃ c,MM.get (aA l).at_ o.aN=some c∧c.aH=o.aH∧c.hold=o.who∧j9 c o.kind=false:=by
 unfold gI rB at hw;obtain ⟨_,_,h3,_,_⟩:=zg.1 hw;obtain ⟨e1,e2,e3⟩:=h3 hk;obtain ⟨c,a,h1,_,_,_,h5⟩:=zf.1 e1;rw [h1] at e2 e3;exact ⟨c,h1,h5,Int.ofNat_inj.1 e2,e3⟩
theorem CN:nR l (aA l).at_ (aA l).made o (fG (aA l).at_ o.aN o.at_ (nQ (aA l).at_ o.at_))=true:=by
 unfold gI rB at hw;exact (zg.1 hw).2.2.2.2
theorem zo (hk:o.kind=2):fG (aA l).at_ o.aN o.at_ (nQ (aA l).at_ o.at_)=true:=by
 have:=CN hw;unfold nR at this;rw [if_pos hk,Bool.and_eq_true] at this;exact this.2
end
end
section
end
section
theorem N4 {P:Program}{env:List (Nat×SV)}{hp:Hp}{k d p:Nat}{r:List SI}{K:St→List (Bool×List Nat)→Prop}{a:Dt}
  (ha:env.lookup p=some (.agg a.cells)) (hk:fC hp k (.arr 37 2 1 a.cells)=(k,.arr 37 2 1 a.cells)::hp)
  (h:RW P r ⟨(d,.gs k 1)::env,(k,.arr 37 2 1 a.cells)::hp,k+1⟩ fun st' ts=>K st' ((false,[k])::ts)):RW P (⟨some d,.lB 37 2 1 [.d (.int .u8 0),.d (.int .u32 0)] [(0,2,.t p)],none⟩::r) ⟨env,hp,k⟩ K:=by
 refine RW.cons (e:=⟨.gs k 1,[],[(k,.arr 37 2 1 a.cells)],1,((2=2∧0+2≤2∧True))⟩) (fun dL=>⟨.own::dL,fu (.inl rfl) ?_⟩) (by show 2=2∧0+2≤2∧True;decide) ?_
 ·have h1:vn (fun t=>env.lookup t) [(0,2,X.t p)]=some [(0,2,.agg a.cells)]:=by
   simp only [vn,ev,ha]
  have h2:lU [SV.d (.int .u8 0),.d (.int .u32 0)] [(0,2,.agg a.cells)]=some (a.cells,((2=2∧0+2≤2∧True))):=rfl;have h4:a.cells.all SV.dO=true:=rfl;simp only [ff,dH,h1,h2,h4,if_true,Bool.true_or]
 ·rw [g_]
  show RW P r ⟨(d,.gs k 1)::env,fC hp k (.arr 37 2 1 a.cells),k+1⟩ _;rw [hk];exact h
section
attribute [local irreducible] SW RW aF SC ai aq
theorem FQ (S:Sh):SB Tryz.prog shape_Shape_Tree.f [.ptr 0 0] S.h0 7 0 fun r F=>r= .ptr 4 0∧F=S.h0:=by
 refine shape_Shape_Tree.enter (by simp [SV.ax,SV.ok]) (S.ok (Nat.le_refl 7)) (by simp) ?_;dsimp only [shape_Shape_Tree.s,Co.M,Co.J,Co.F,Co.T,Co.P,Co.D,Co.A,Co.S];(repeat (first | refine SW.seq ?_ | refine SW.block ?_ | refine SW.g1 [0,2,4] mixed af (ry S) ?_ | refine SW.skip ?_ | refine SW.exit ?_ | refine SW.ret ?_ | refine SW.aj rfl ?_ | refine SW.ah rfl ?_));exact End.mk S.h0 (h4:=⟨rfl,rfl⟩) (h6:=S.ok (Nat.le_refl 7))
theorem bR.IE (S:Sh)(k:Nat):aF Tryz.prog shape_Shape_Tree.f [.ptr 10 0] S.lD k 0 (.ptr 2 0) S.lD:=by
 have:=SB.pz n10.nl (FQ S) (by decide) (fun i hi=>S.BK i hi) k;rw [S.E4 n10 k] at this;exact this
end
end
section
theorem IF (l:List ag)(d:Dt)(o:ag):oE l (aA l).at_ d o=((c_ l 10 d).2 && (decide ((c_ l 10 d).1.aH=o.aH) && oe l d o)):=by
 obtain ⟨a1,a2⟩:=(eE l).get d;have a1:(c_ l 10 d).2=(MM.get (aA l).at_ d).isSome:=a1;unfold oE MM.has;rw [a1];cases h:MM.get (aA l).at_ d with
 | none=>rfl
 | some c=>
  have:=a2 c h;rw [this];rfl
theorem IG {l:List ag}{d:Dt}{o:ag}(h:oE l (aA l).at_ d o=true):(c_ l 10 d).1=(MM.get (aA l).at_ d).getD Cr.zero:=by
 obtain ⟨c,a,h1,_⟩:=zf.1 h;obtain ⟨_,a2⟩:=(eE l).get d;have:=a2 c h1;rw [this,h1];rfl
theorem FR (n:Nat):IntKind.u8.wrap (n:Int)=((n % 256:Nat):Int):=by
 unfold IntKind.wrap;simp [IntKind.bits,IntKind.signed]
theorem II (m i:Nat):m &&& 2 ^ i=if m.testBit i then 2 ^ i else 0:=by
 apply Nat.eq_of_testBit_eq;intro j;rw [Nat.testBit_and,Nat.testBit_two_pow]
 by_cases e:i=j
 ·subst e;cases h:m.testBit i <;> simp [Nat.testBit_two_pow]
 ·cases h:m.testBit i <;> simp [e,Nat.testBit_two_pow]
theorem FT {c:Cr}{q:Nat}(h0:q≠0)(h8:q≤8):((IntKind.u8.wrap ((c.aP:Int).tdiv (fI q:Int))).tmod 2 != 1)=j9 c q∧(fI q:Int)≠0:=by
 have key:∀ i,i≤2→fI q=2 ^ i→((IntKind.u8.wrap ((c.aP:Int).tdiv (fI q:Int))).tmod 2 != 1)=j9 c q∧(fI q:Int)≠0:=fun i h2i hi=>by
  unfold j9;rw [hi,and_eq];have e:(c.aP:Int).tdiv ((2 ^ i:Nat):Int)=((c.aP / 2 ^ i:Nat):Int):=(Int.ofNat_tdiv _ _).symm;have e2:(((c.aP / 2 ^ i % 256:Nat):Int)).tmod 2=((c.aP / 2 ^ i % 256 % 2:Nat):Int):=(Int.ofNat_tmod _ 2).symm;rw [e,FR,e2,BitVec.toNat_and,BitVec.toNat_ofNat,BitVec.toNat_ofNat,Nat.mod_eq_of_lt (show 2 ^ i<2 ^ 8 from Nat.pow_lt_pow_right (by omega) (by omega)),II];have h3:c.aP / 2 ^ i % 256 % 2=(c.aP % 2 ^ 8) / 2 ^ i % 2:=by
   rcases (show i=0∨i=1∨i=2 by omega) with rfl | rfl | rfl <;> simp only [Nat.reducePow] <;> omega
  have h4:(c.aP % 2 ^ 8).testBit i=decide ((c.aP % 2 ^ 8) / 2 ^ i % 2=1):=Nat.testBit_eq_decide_div_mod_eq;have hp:=Nat.two_pow_pos i;refine ⟨?_,by omega⟩;rw [h3,h4];generalize (c.aP % 2 ^ 8) / 2 ^ i % 2=m
  by_cases hm:m=1
  ·subst hm;simp
  ·rw [decide_eq_false hm,Bool.eq_iff_iff]
   simp only [Bool.false_eq_true,if_false,bne_iff_ne,ne_eq];constructor
   ·intro _;omega
   ·intro _;omega
 rcases (show q=1∨q=2∨q=3∨q=4∨q=5∨q=6∨q=7∨q=8 by omega) with rfl | rfl | rfl | rfl | rfl | rfl | rfl | rfl
 ·exact key 0 (by omega) rfl
 ·exact key 0 (by omega) rfl
 ·exact key 1 (by omega) rfl
 ·exact key 1 (by omega) rfl
 ·exact key 1 (by omega) rfl
 ·exact key 2 (by omega) rfl
 ·exact key 2 (by omega) rfl
 ·exact key 1 (by omega) rfl
noncomputable def oJ (l:List ag)(d aH:Dt):Bool:=match aS l d with
 | some a=>decide (a.kind=3) && (decide (a.aH=aH) && decide (gI l a=0))
 | none=>false
theorem FU {l:List ag}{a:ag}(h:a.kind=3):gI l a=iP l (aA l).at_ (aA l).made a true:=by
 unfold gI rB;have:nR l (aA l).at_ (aA l).made a (fG (aA l).at_ a.aN a.at_ (nQ (aA l).at_ a.at_))=true:=by
  unfold nR;rw [if_neg (by omega),if_neg (by omega),if_neg (by omega),if_neg (by omega)]
 rw [this]
theorem FV {l:List ag}{s:ag}(h:s.kind=4):gI l s=iP l (aA l).at_ (aA l).made s (mF l (aA l).at_ (aA l).made s.at_ s):=by
 unfold gI rB;have:nR l (aA l).at_ (aA l).made s (fG (aA l).at_ s.aN s.at_ (nQ (aA l).at_ s.at_))=mF l (aA l).at_ (aA l).made s.at_ s:=by
  unfold nR;rw [if_neg (by omega),if_pos (.inl h)]
 rw [this]
theorem zp (l:List ag)(d:Dt)(o:ag):mF l (aA l).at_ (aA l).made d o=(oJ l d o.aH && oe l d o):=by
 unfold mF Im oJ;cases h:aS l d with
 | none=>rfl
 | some a=>
  dsimp only;rw [eM h]
  by_cases h3:a.kind=3
  ·rw [FU h3]
   cases decide (a.aH=o.aH) <;> cases oe l d o <;> simp [h3]
  ·simp [h3]
theorem IJ (l:List ag)(c:Cm)(o:ag):oF l (aA l).at_ (aA l).made c o=((oJ l c.line o.aH && oe l c.line o) && (decide (c.lC=c.line) || (match aS l c.lC with
  | some s=>decide (s.kind=4) && (decide (s.at_=c.line) && (oe l c.lC o && decide (gI l s=0)))
  | none=>false))):=by
 unfold oF;rw [zp]
 congr 2
 unfold FG;cases h:aS l c.lC with
 | none=>rfl
 | some s=>
  dsimp only
  by_cases h4:s.kind=4
  ·rw [FV h4]
   by_cases hw:iP l (aA l).at_ (aA l).made s (mF l (aA l).at_ (aA l).made s.at_ s)=0
   ·simp only [h4,hw,and_self,if_true,Option.isSome_some,Option.getD_some,decide_true,Bool.true_and,Bool.and_true]
   ·simp only [hw,and_false,if_false,Option.isSome_none,Bool.false_and,decide_false,Bool.and_false]
  ·simp only [h4,false_and,if_false,Option.isSome_none,Bool.false_and,decide_false]
end
section
section
attribute [local irreducible] SW RW aF SC ai aq fI
variable (l:List ag) (hl:l.length<1000000000)
include hl
theorem oK (d:Dt)(k:Nat):aF Tryz.prog ref10_Find.f [ops l,.agg d.cells] [] k 0 (.dm [.agg (i_ l d).cells,bl (aS l d).isSome]) []:=pI l (by omega) d k
theorem K7 (d:Dt)(o:ag):Go.Sl.Pure Tryz.prog ref17_before.f [ops l,.agg d.cells,.agg o.cells] (bl (oe l d o)):=by
 have hf:=oK l hl d;have e:oe l d o=((aS l d).isSome && (i_ l d).before o):=rfl;rw [e];obtain ⟨a,ha⟩:∃ a,i_ l d=a:=⟨_,rfl⟩;rw [ha] at hf ⊢;refine ref17_before.enter (by first | rfl | simp [SV.ok,SV.ax]) (by first | rfl | simp [Hp.ok,Ob.ok,SV.ok,SV.ax,aB.ak]) (by simp) ?_;dsimp only [ref17_before.s,Co.M,Co.J,Co.H,Co.F,Co.C,Co.B,Co.bF,Co.K,Co.E,Co.Q,Co.x,Co.W,Co.U,Co.S];rcases hi:(aS l d).isSome with _ | _
 ·(repeat (first | refine SW.seq ?_ | refine SW.block ?_ | refine SW.g2 [0,1,2,4,5,6,7,8] mixed (hi) hf (cL a o) ?_ | refine SW.skip ?_ | refine SW.exit ?_ | refine SW.ret ?_ | refine SW.aj rfl ?_ | refine SW.ah rfl ?_))
  exact End.mk [] (h4:=⟨rfl,rfl⟩)
 ·(repeat (first | refine SW.seq ?_ | refine SW.block ?_ | refine SW.g2 [0,1,2,4,5,6,7,8] mixed (hi) hf (cL a o) ?_ | refine SW.skip ?_ | refine SW.exit ?_ | refine SW.ret ?_ | refine SW.aj rfl ?_ | refine SW.ah rfl ?_))
  exact End.mk [] (h4:=⟨by rw [Bool.true_and];rfl,rfl⟩)
theorem xW (d:Dt)(o:ag)(k:Nat):aF Tryz.prog ref17_before.f [ops l,.agg d.cells,.agg o.cells] [] k 0 (bl (oe l d o)) []:=(K7 l hl d o).sc rfl k
theorem CO (o:ag):Go.Sl.Pure Tryz.prog ref17_cart.f [ops l,.agg o.cells] (bl (nX l o)):=by
 have hf:=oK l hl o.aH;refine ref17_cart.enter (by first | rfl | simp [SV.ok,SV.ax]) (by first | rfl | simp [Hp.ok,Ob.ok,SV.ok,SV.ax,aB.ak]) (by simp) ?_;dsimp only [ref17_cart.s,Co.M,Co.J,Co.H,Co.F,Co.C,Co.B,Co.b8,Co.bF,Co.T,Co.K,Co.E,Co.Q,Co.x,Co.W,Co.U,Co.D,Co.S]
 by_cases hk:o.kind=0
 ·have z:((o.kind:Int) == 0)=true:=by rw [hk];rfl
  have e:nX l o=decide (o.aH=o.dot):=by unfold nX;rw [if_pos hk]
  rw [e];(repeat (first | refine SW.seq ?_ | refine SW.block ?_ | refine SW.g0 [0,1,3,4,5,6,9] mixed (z) ?_ | refine SW.skip ?_ | refine SW.exit ?_ | refine SW.ret ?_ | refine SW.aj rfl ?_ | refine SW.ah rfl ?_));exact End.mk [] (h4:=⟨rfl,rfl⟩)
 have z:((o.kind:Int) == 0)=false:=by simp;exact hk
 obtain ⟨a,ha⟩:∃ a,i_ l o.aH=a:=⟨_,rfl⟩;have e:nX l o=((aS l o.aH).isSome && (decide (a.kind=0) && (decide (a.aH=o.aH) && a.before o))):=by
  unfold nX;rw [if_neg hk];cases h:aS l o.aH with
  | none=>rfl
  | some b=>
   have hb:a=b:=by rw [← ha,eM h]
   rw [eM h,hb,gW h]
 rw [e];rw [ha] at hf;rcases hi:(aS l o.aH).isSome with _ | _
 ·(repeat (first | refine SW.seq ?_ | refine SW.block ?_ | refine SW.g2 [0,1,3,4,5,6,9] mixed (And.intro (z) (hi)) hf (cL a o) ?_ | refine SW.skip ?_ | refine SW.exit ?_ | refine SW.ret ?_ | refine SW.aj rfl ?_ | refine SW.ah rfl ?_))
  exact End.mk [] (h4:=⟨rfl,rfl⟩)
 by_cases h1:a.kind=0
 rotate_left
 ·have z1:((a.kind:Int) == 0)=false:=by simp;exact h1
  (repeat (first | refine SW.seq ?_ | refine SW.block ?_ | refine SW.g2 [0,1,3,4,5,6,9] mixed (And.intro (z) (And.intro (hi) (z1))) hf (cL a o) ?_ | refine SW.skip ?_ | refine SW.exit ?_ | refine SW.ret ?_ | refine SW.aj rfl ?_ | refine SW.ah rfl ?_));exact End.mk [] (h4:=⟨by rw [decide_eq_false h1];rfl,rfl⟩)
 have z1:((a.kind:Int) == 0)=true:=by rw [h1];rfl
 rw [decide_eq_true h1];rcases h2:decide (a.aH=o.aH) with _ | _
 ·(repeat (first | refine SW.seq ?_ | refine SW.block ?_ | refine SW.g2 [0,1,3,4,5,6,9] mixed (And.intro (z) (And.intro (hi) (And.intro (z1) (h2)))) hf (cL a o) ?_ | refine SW.skip ?_ | refine SW.exit ?_ | refine SW.ret ?_ | refine SW.aj rfl ?_ | refine SW.ah rfl ?_))
  exact End.mk [] (h4:=⟨rfl,rfl⟩)
 ·(repeat (first | refine SW.seq ?_ | refine SW.block ?_ | refine SW.g2 [0,1,3,4,5,6,9] mixed (And.intro (z) (And.intro (hi) (And.intro (z1) (h2)))) hf (cL a o) ?_ | refine SW.skip ?_ | refine SW.exit ?_ | refine SW.ret ?_ | refine SW.aj rfl ?_ | refine SW.ah rfl ?_))
  exact End.mk [] (h4:=⟨by simp only [Bool.true_and];rfl,rfl⟩)
theorem CP (o:ag)(k:Nat):aF Tryz.prog ref17_cart.f [ops l,.agg o.cells] [] k 0 (bl (nX l o)) []:=(CO l hl o).sc rfl k
variable (hr:∀ x,x∈l→x.aP<256)
include hr
set_option maxHeartbeats 4000000 in
theorem CQ (d:Dt)(o:ag):Go.Sl.Pure Tryz.prog ref17_cred.f [ops l,.agg d.cells,.agg o.cells] (.dm [.agg (c_ l 10 d).1.cells,bl (oE l (aA l).at_ d o)]):=by
 have hg:=xK (by omega) hr d;have hb:=xW l hl d o;rw [IF];obtain ⟨⟨c,is⟩,hc⟩:∃ p,c_ l 10 d=p:=⟨_,rfl⟩;rw [hc] at hg ⊢;dsimp only at hg ⊢;obtain ⟨bf,hbf⟩:∃ b,oe l d o=b:=⟨_,rfl⟩;rw [hbf] at hb ⊢;refine ref17_cred.enter (by first | rfl | simp [SV.ok,SV.ax]) (by first | rfl | simp [Hp.ok,Ob.ok,SV.ok,SV.ax,aB.ak]) (by simp) ?_;dsimp only [ref17_cred.s,Co.M,Co.G,Co.J,Co.H,Co.F,Co.C,Co.B,Co.b8,Co.av,Co.bC,Co.i6,Co.K,Co.E,Co.Q,Co.x,Co.W,Co.U,Co.S];refine SW.seq ?_;refine SW.g0 [0,1,2,4,5,6,7,8,9] mixed af ?_;refine SW.seq ?_;refine SW.g1 [0,1,2,4,5,6,7,8,9] mixed af hg ?_;refine SW.seq ?_;cases is with
 | false=>
  refine SW.g1 [0,1,2,4,5,6,7,8,9] mixed af hb ?_;refine SW.ret ?_;exact End.mk [] (h1:=by first | rfl | simp [Cg,lk,List.lookup,z7];rfl) (h4:=⟨rfl,rfl⟩)
 | true=>
  rcases h2:decide (c.aH=o.aH) with _ | _
  ·refine SW.g1 [0,1,2,4,5,6,7,8,9] mixed (h2) hb ?_
   refine SW.ret ?_;exact End.mk [] (h4:=⟨rfl,rfl⟩)
  ·refine SW.g1 [0,1,2,4,5,6,7,8,9] mixed (h2) hb ?_
   refine SW.ret ?_;exact End.mk [] (h4:=⟨by simp only [Bool.true_and];rfl,rfl⟩)
theorem wP (d:Dt)(o:ag)(k:Nat):aF Tryz.prog ref17_cred.f [ops l,.agg d.cells,.agg o.cells] [] k 0 (.dm [.agg (c_ l 10 d).1.cells,bl (oE l (aA l).at_ d o)]) []:=(CQ l hl hr d o).sc rfl k
end
section
attribute [local irreducible] SW RW aF SC ai aq
theorem CS (q:Nat)(hq:q≤8):Go.Sl.Pure Tryz.prog ref17_Needs.f [u8 q] (u8 (fI q)):=by
 rcases (show q=0∨q=1∨q=2∨q=3∨q=4∨q=5∨q=6∨q=7∨q=8 by omega) with rfl | rfl | rfl | rfl | rfl | rfl | rfl | rfl | rfl
 all_goals
  refine ref17_Needs.enter (by first | rfl | simp [SV.ok,SV.ax]) (by first | rfl | simp [Hp.ok,Ob.ok,SV.ok,SV.ax,aB.ak]) (by simp) ?_;dsimp only [ref17_Needs.s,Co.M,Co.J,Co.F,Co.b8,Co.S];(repeat (first | refine SW.seq ?_ | refine SW.block ?_ | refine SW.g0 [0,2,3,4,7,12] mixed af ?_ | refine SW.skip ?_ | refine SW.exit ?_ | refine SW.ret ?_ | refine SW.aj rfl ?_ | refine SW.ah rfl ?_));exact End.mk [] (h4:=⟨rfl,rfl⟩)
theorem CT (q:Nat)(hq:q≤8)(k:Nat):aF Tryz.prog ref17_Needs.f [u8 q] [] k 0 (u8 (fI q)) []:=(CS q hq).sc rfl k
end
section
attribute [local irreducible] SW RW aF SC ai aq fI
variable (l:List ag) (hl:l.length<1000000000) (hr:∀ x,x∈l→x.aP<256)
include hl hr
set_option maxHeartbeats 8000000 in
theorem oL (o:ag)(ho:o.aP<256)(t:Bool)(ht:∀ k,aF Tryz.prog ref17_target.f [ops l,.agg o.cells] [] k 0 (bl t) [])(h0:o.kind=0→t=true):
  Go.Sl.Pure Tryz.prog ref17_Why.f [ops l,.agg o.cells] (i64 (iP l (aA l).at_ (aA l).made o t)):=by
 have hct:=CP l hl o;have hcd:=wP l hl hr o.aN o;refine ref17_Why.enter (by first | rfl | simp [SV.ok,SV.ax]) (by first | rfl | simp [Hp.ok,Ob.ok,SV.ok,SV.ax,aB.ak]) (by simp) ?_;dsimp only [ref17_Why.s,Co.M,Co.G,Co.J,Co.H,Co.F,Co.C,Co.Z,Co.b8,Co.av,Co.bC,Co.i6,Co.T,Co.K,Co.E,Co.P,Co.Q,Co.R,Co.x,Co.W,Co.V,Co.U,Co.O,Co.D,Co.S];refine SW.seq ?_;refine SW.g0 [0,1,3,4,5,6,9,13,16,26,31,39,48,52] mixed af ?_;refine SW.seq (SW.seq ?_)
 by_cases h8:(o.kind:Int)>8
 ·have e:iP l (aA l).at_ (aA l).made o t=2:=by unfold iP;rw [decide_eq_true h8];rfl
  rw [e];have g:=decide_eq_true h8;(repeat (first | refine SW.seq ?_ | refine SW.block ?_ | refine SW.g0 [0,1,3,4,5,6,9,13,16,26,31,39,48,52] mixed (g) ?_ | refine SW.skip ?_ | refine SW.exit ?_ | refine SW.ret ?_ | refine SW.aj rfl ?_ | refine SW.ah rfl ?_));exact End.mk [] (h4:=⟨rfl,rfl⟩)
 have g8:=decide_eq_false h8;refine SW.g0 [0,1,3,4,5,6,9,13,16,26,31,39,48,52] mixed (g8) ?_;refine SW.ah rfl (SW.skip ?_);refine SW.seq (SW.seq ?_);rcases hc:nX l o with _ | _
 ·have e:iP l (aA l).at_ (aA l).made o t=271:=by unfold iP;rw [g8,hc];rfl
  rw [e];rw [hc] at hct;(repeat (first | refine SW.seq ?_ | refine SW.block ?_ | refine SW.g1 [0,1,3,4,5,6,9,13,16,26,31,39,48,52] mixed af hct ?_ | refine SW.skip ?_ | refine SW.exit ?_ | refine SW.ret ?_ | refine SW.aj rfl ?_ | refine SW.ah rfl ?_));exact End.mk [] (h4:=⟨rfl,rfl⟩)
 rw [hc] at hct;refine SW.g1 [0,1,3,4,5,6,9,13,16,26,31,39,48,52] mixed af hct ?_;refine SW.ah rfl (SW.skip ?_);refine SW.seq (SW.seq ?_)
 by_cases l7:o.kind=0
 ·have z:((o.kind:Int) == 0)=true:=by rw [l7];rfl
  have e:iP l (aA l).at_ (aA l).made o t=0:=by
   unfold iP;rw [g8,hc,z,l7,uR,h0 l7];rfl
  rw [e];(repeat (first | refine SW.seq ?_ | refine SW.block ?_ | refine SW.g0 [0,1,3,4,5,6,9,13,16,26,31,39,48,52] mixed (z) ?_ | refine SW.skip ?_ | refine SW.exit ?_ | refine SW.ret ?_ | refine SW.aj rfl ?_ | refine SW.ah rfl ?_));exact End.mk [] (h4:=⟨rfl,rfl⟩)
 have z:((o.kind:Int) == 0)=false:=by simp;exact l7
 refine SW.g0 [0,1,3,4,5,6,9,13,16,26,31,39,48,52] mixed (z) ?_;refine SW.ah rfl (SW.skip ?_);refine SW.seq ?_;rcases hd:oE l (aA l).at_ o.aN o with _ | _
 ·have e:iP l (aA l).at_ (aA l).made o t=272:=by unfold iP;rw [g8,hc,z,hd];rfl
  rw [e];rw [hd] at hcd;refine SW.g1 [0,1,3,4,5,6,9,13,16,26,31,39,48,52] mixed af hcd ?_;(repeat (first | refine SW.seq ?_ | refine SW.block ?_ | refine SW.g0 [0,1,3,4,5,6,9,13,16,26,31,39,48,52] mixed af ?_ | refine SW.skip ?_ | refine SW.exit ?_ | refine SW.ret ?_ | refine SW.aj rfl ?_ | refine SW.ah rfl ?_));exact End.mk [] (h4:=⟨rfl,rfl⟩)
 rw [hd,IG hd] at hcd;obtain ⟨c,hcr⟩:∃ c,(MM.get (aA l).at_ o.aN).getD Cr.zero=c:=⟨_,rfl⟩;rw [hcr] at hcd;refine SW.g1 [0,1,3,4,5,6,9,13,16,26,31,39,48,52] mixed af hcd ?_;refine SW.seq (SW.seq ?_);refine SW.g0 [0,1,3,4,5,6,9,13,16,26,31,39,48,52] mixed af ?_;refine SW.ah rfl (SW.skip ?_);refine SW.seq (SW.seq ?_);rcases hh:((c.hold:Int) != (o.who:Int)) with _ | _
 rotate_left
 ·have e:iP l (aA l).at_ (aA l).made o t=273:=by unfold iP;rw [g8,hc,z,hd,hcr,hh];rfl
  rw [e];(repeat (first | refine SW.seq ?_ | refine SW.block ?_ | refine SW.g0 [0,1,3,4,5,6,9,13,16,26,31,39,48,52] mixed (hh) ?_ | refine SW.skip ?_ | refine SW.exit ?_ | refine SW.ret ?_ | refine SW.aj rfl ?_ | refine SW.ah rfl ?_));exact End.mk [] (h4:=⟨rfl,rfl⟩)
 refine SW.g0 [0,1,3,4,5,6,9,13,16,26,31,39,48,52] mixed (hh) ?_;refine SW.ah rfl (SW.skip ?_);refine SW.seq (SW.seq ?_);have hk8:o.kind≤8:=by omega
 obtain ⟨hq1,hq2⟩:=FT (c:=c) l7 hk8;have hn:=CT o.kind hk8;obtain ⟨nv,hnv⟩:∃ nv,fI o.kind=nv:=⟨_,rfl⟩;rw [hnv] at hq1 hq2 hn;rcases hb:j9 c o.kind with _ | _
 rotate_left
 ·have e:iP l (aA l).at_ (aA l).made o t=274:=by unfold iP;rw [g8,hc,z,hd,hcr,hh,hb];rfl
  rw [e];rw [hb] at hq1;refine SW.g1 [0,1,3,4,5,6,9,13,16,26,31,39,48,52] mixed (hq1) hn ?_;(repeat (first | refine SW.seq ?_ | refine SW.block ?_ | refine SW.g0 [0,1,3,4,5,6,9,13,16,26,31,39,48,52] mixed af ?_ | refine SW.skip ?_ | refine SW.exit ?_ | refine SW.ret ?_ | refine SW.aj rfl ?_ | refine SW.ah rfl ?_));exact End.mk [] (h4:=⟨rfl,rfl⟩)
 rw [hb] at hq1;refine SW.g1 [0,1,3,4,5,6,9,13,16,26,31,39,48,52] mixed (hq1) hn ?_;refine SW.ah rfl (SW.skip ?_);refine SW.seq (SW.seq ?_);have hw:=HY (by omega) hr o ho;have DK:=Ip l o;rw [← DK] at hw;obtain ⟨w,hww⟩:∃ w,wJ (aA l).at_ (aA l).made o=w:=⟨_,rfl⟩;rw [hww] at hw
 by_cases h1:o.kind=1
 ·have z1:((o.kind:Int) == 1)=true:=by rw [h1];rfl
  by_cases hw0:w=0
  rotate_left
  ·have zw:((w:Int) != 0)=true:=by simp;exact hw0
   have e:iP l (aA l).at_ (aA l).made o t=275:=by
    unfold iP;rw [g8,hc,z,hd,hcr,hh,hb,hww,decide_eq_true h1,decide_eq_true hw0];rfl
   rw [e];refine SW.g1 [0,1,3,4,5,6,9,13,16,26,31,39,48,52] mixed (And.intro (z1) (zw)) hw ?_;(repeat (first | refine SW.seq ?_ | refine SW.block ?_ | refine SW.g0 [0,1,3,4,5,6,9,13,16,26,31,39,48,52] mixed af ?_ | refine SW.skip ?_ | refine SW.exit ?_ | refine SW.ret ?_ | refine SW.aj rfl ?_ | refine SW.ah rfl ?_));exact End.mk [] (h4:=⟨rfl,rfl⟩)
  have zw:((w:Int) != 0)=false:=by simp;exact hw0
  have e:iP l (aA l).at_ (aA l).made o t=if !t then 276 else 0:=by
   unfold iP;rw [g8,hc,z,hd,hcr,hh,hb,hww,decide_eq_true h1,decide_eq_false (fun h=>h hw0)];rfl
  rw [e];refine SW.g1 [0,1,3,4,5,6,9,13,16,26,31,39,48,52] mixed (And.intro (z1) (zw)) hw ?_;refine SW.ah rfl (SW.skip ?_);cases t
  ·(repeat (first | refine SW.seq ?_ | refine SW.block ?_ | refine SW.g1 [0,1,3,4,5,6,9,13,16,26,31,39,48,52] mixed af ht ?_ | refine SW.skip ?_ | refine SW.exit ?_ | refine SW.ret ?_ | refine SW.aj rfl ?_ | refine SW.ah rfl ?_))
   exact End.mk [] (h4:=⟨rfl,rfl⟩)
  ·(repeat (first | refine SW.seq ?_ | refine SW.block ?_ | refine SW.g1 [0,1,3,4,5,6,9,13,16,26,31,39,48,52] mixed af ht ?_ | refine SW.skip ?_ | refine SW.exit ?_ | refine SW.ret ?_ | refine SW.aj rfl ?_ | refine SW.ah rfl ?_))
   exact End.mk [] (h4:=⟨rfl,rfl⟩)
 have z1:((o.kind:Int) == 1)=false:=by simp;omega
 have e:iP l (aA l).at_ (aA l).made o t=if !t then 276 else 0:=by
  unfold iP;rw [g8,hc,z,hd,hcr,hh,hb,decide_eq_false h1];rfl
 rw [e];refine SW.g0 [0,1,3,4,5,6,9,13,16,26,31,39,48,52] mixed (z1) ?_;refine SW.ah rfl (SW.skip ?_);cases t
 ·(repeat (first | refine SW.seq ?_ | refine SW.block ?_ | refine SW.g1 [0,1,3,4,5,6,9,13,16,26,31,39,48,52] mixed af ht ?_ | refine SW.skip ?_ | refine SW.exit ?_ | refine SW.ret ?_ | refine SW.aj rfl ?_ | refine SW.ah rfl ?_))
  exact End.mk [] (h4:=⟨rfl,rfl⟩)
 ·(repeat (first | refine SW.seq ?_ | refine SW.block ?_ | refine SW.g1 [0,1,3,4,5,6,9,13,16,26,31,39,48,52] mixed af ht ?_ | refine SW.skip ?_ | refine SW.exit ?_ | refine SW.ret ?_ | refine SW.aj rfl ?_ | refine SW.ah rfl ?_))
  exact End.mk [] (h4:=⟨rfl,rfl⟩)
end
end
end Go.Proofs.YtaelhkkjgfobhaaGreat
