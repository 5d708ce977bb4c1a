/-
 Shapes: what is well-formed names what it needs (plain).
-/
import Derived.Test.YtaelhkkjgfobhaaGreatUJ
import Derived.Test.YtaelhkkjgfobhaaGreatUE
import Derived.Test.YtaelhkkjgfobhaaGreatU6
import Derived.Test.YtaelhkkjgfobhaaGreatUK
import Derived.Test.YtaelhkkjgfobhaaGreatU5
import Derived.Test.YtaelhkkjgfobhaaGreatUB
import Derived.Test.YtaelhkkjgfobhaaGreatUG
set_option linter.unusedSectionVars false
set_option linter.unusedVariables false
set_option linter.unusedSimpArgs false
namespace Go.Proofs.YtaelhkkjgfobhaaGreat
open Go.Sl Go.Proofs
section
section
variable {l:List ag} {o:ag} (hw:g_ l o=0)
include hw
end
end
section
end
section
section
attribute [local irreducible] SW RW aG SC aj an
theorem Eh (S:Sh):SB Tryz.prog shape_Shape_Tree.f [.ptr 0 0] S.h0 7 0 fun r F=>r= .ptr 4 0∧F=S.h0:=by
 refine shape_Shape_Tree.enter (by simp [SV.av,SV.ok]) (S.ok (Nat.le_refl 7)) (by simp) ?_
 dsimp only [shape_Shape_Tree.s,Co.M,Co.G,Co.J,Co.H,Co.N,Co.F,Co.C,Co.Z,Co.B,Co.b8,Co.ay,Co.bz,Co.i6,Co.z8,Co.bC]
 (repeat (first | refine SW.seq ?_ | refine SW.block ?_ | refine SW.g1 [0,2,4] mixed af (sM S) ?_ | refine SW.skip ?_ | refine SW.exit ?_ | refine SW.ret ?_ | refine SW.ak rfl ?_ | refine SW.ai rfl ?_))
 exact End.mk S.h0 (h4:=⟨rfl,rfl⟩) (h6:=S.ok (Nat.le_refl 7))
theorem cq.GL (S:Sh)(k:Nat):aG Tryz.prog shape_Shape_Tree.f [.ptr 10 0] S.jo k 0 (.ptr 2 0) S.jo:=by
 have:=SB.q_ n10.nl (Eh S) (by decide) (fun i hi=>S.HT i hi) k
 rw [S.Ds n10 k] at this
 exact this
end
end
section
theorem GM (l:List ag)(d:Dt)(o:ag):pL l (aA l).at_ d o=((cg l 10 d).2 && (decide ((cg l 10 d).1.aQ=o.aQ) && nq l d o)):=by
 obtain ⟨a1,a2⟩:=(eN l).get d
 have a1:(cg l 10 d).2=(MM.get (aA l).at_ d).isSome:=a1
 unfold pL MM.has
 rw [a1]
 cases h:MM.get (aA l).at_ d with
 | none=>rfl
 | some c=>
  have:=a2 c h
  rw [this];rfl
theorem GN {l:List ag}{d:Dt}{o:ag}(h:pL l (aA l).at_ d o=true):(cg l 10 d).1=(MM.get (aA l).at_ d).getD Cr.zero:=by
 obtain ⟨c,a,h1,_⟩:=D6.1 h
 obtain ⟨_,a2⟩:=(eN l).get d
 have:=a2 c h1
 rw [this,h1];rfl
theorem Ei (n:Nat):IntKind.u8.wrap (n:Int)=((n % 256:Nat):Int):=by
 unfold IntKind.wrap
 simp [IntKind.bits,IntKind.signed]
theorem GO (m i:Nat):m &&& 2 ^ i=if m.testBit i then 2 ^ i else 0:=by
 apply Nat.eq_of_testBit_eq
 intro j
 rw [Nat.testBit_and,Nat.testBit_two_pow]
 by_cases e:i=j
 ·subst e;cases h:m.testBit i <;> simp [Nat.testBit_two_pow]
 ·cases h:m.testBit i <;> simp [e,Nat.testBit_two_pow]
theorem Ej {c:Cr}{q:Nat}(h0:q≠0)(h8:q≤8):((IntKind.u8.wrap ((c.aN:Int).tdiv (eO q:Int))).tmod 2 != 1)=lP c q∧(eO q:Int)≠0:=by
 have key:∀ i,i≤2→eO q=2 ^ i→((IntKind.u8.wrap ((c.aN:Int).tdiv (eO q:Int))).tmod 2 != 1)=lP c q∧(eO q:Int)≠0:=fun i h2i hi=>by
  unfold lP
  rw [hi,and_eq]
  have e:(c.aN:Int).tdiv ((2 ^ i:Nat):Int)=((c.aN / 2 ^ i:Nat):Int):=(Int.ofNat_tdiv _ _).symm
  have e2:(((c.aN / 2 ^ i % 256:Nat):Int)).tmod 2=((c.aN / 2 ^ i % 256 % 2:Nat):Int):=(Int.ofNat_tmod _ 2).symm
  rw [e,Ei,e2,BitVec.toNat_and,BitVec.toNat_ofNat,BitVec.toNat_ofNat,Nat.mod_eq_of_lt (show 2 ^ i<2 ^ 8 from Nat.pow_lt_pow_right (by omega) (by omega)),GO]
  have h3:c.aN / 2 ^ i % 256 % 2=(c.aN % 2 ^ 8) / 2 ^ i % 2:=by
   rcases (show i=0∨i=1∨i=2 by omega) with rfl | rfl | rfl <;> simp only [Nat.reducePow] <;> omega
  have h4:(c.aN % 2 ^ 8).testBit i=decide ((c.aN % 2 ^ 8) / 2 ^ i % 2=1):=Nat.testBit_eq_decide_div_mod_eq
  have hp:=Nat.two_pow_pos i
  refine ⟨?_,by omega⟩
  rw [h3,h4]
  generalize (c.aN % 2 ^ 8) / 2 ^ i % 2=m
  by_cases hm:m=1
  ·subst hm;simp
  ·rw [decide_eq_false hm,Bool.eq_iff_iff]
   simp only [Bool.false_eq_true,if_false,bne_iff_ne,ne_eq]
   constructor
   ·intro _;omega
   ·intro _;omega
 rcases (show q=1∨q=2∨q=3∨q=4∨q=5∨q=6∨q=7∨q=8 by omega) with rfl | rfl | rfl | rfl | rfl | rfl | rfl | rfl
 ·exact key 0 (by omega) rfl
 ·exact key 0 (by omega) rfl
 ·exact key 1 (by omega) rfl
 ·exact key 1 (by omega) rfl
 ·exact key 1 (by omega) rfl
 ·exact key 2 (by omega) rfl
 ·exact key 2 (by omega) rfl
 ·exact key 1 (by omega) rfl
noncomputable def nS (l:List ag)(d aQ:Dt):Bool:=match aT l d with
 | some a=>decide (a.kind=3) && (decide (a.aQ=aQ) && decide (g_ l a=0))
 | none=>false
theorem Ek {l:List ag}{a:ag}(h:a.kind=3):g_ l a=iE l (aA l).at_ (aA l).made a true:=by
 unfold g_ sA
 have:nQ l (aA l).at_ (aA l).made a (fU (aA l).at_ a.aV a.at_ (oO (aA l).at_ a.at_))=true:=by
  unfold nQ
  rw [if_neg (by omega),if_neg (by omega),if_neg (by omega),if_neg (by omega)]
 rw [this]
theorem El {l:List ag}{s:ag}(h:s.kind=4):g_ l s=iE l (aA l).at_ (aA l).made s (lQ l (aA l).at_ (aA l).made s.at_ s):=by
 unfold g_ sA
 have:nQ l (aA l).at_ (aA l).made s (fU (aA l).at_ s.aV s.at_ (oO (aA l).at_ s.at_))=lQ l (aA l).at_ (aA l).made s.at_ s:=by
  unfold nQ
  rw [if_neg (by omega),if_pos (.inl h)]
 rw [this]
theorem yg (l:List ag)(d:Dt)(o:ag):lQ l (aA l).at_ (aA l).made d o=(nS l d o.aQ && nq l d o):=by
 unfold lQ Gu nS
 cases h:aT l d with
 | none=>rfl
 | some a=>
  dsimp only
  rw [dO h]
  by_cases h3:a.kind=3
  ·rw [Ek h3]
   cases decide (a.aQ=o.aQ) <;> cases nq l d o <;> simp [h3]
  ·simp [h3]
theorem GP (l:List ag)(c:Cm)(o:ag):nP l (aA l).at_ (aA l).made c o=((nS l c.line o.aQ && nq l c.line o) && (decide (c.kH=c.line) || (match aT l c.kH with
  | some s=>decide (s.kind=4) && (decide (s.at_=c.line) && (nq l c.kH o && decide (g_ l s=0)))
  | none=>false))):=by
 unfold nP
 rw [yg]
 congr 2
 unfold D5
 cases h:aT l c.kH with
 | none=>rfl
 | some s=>
  dsimp only
  by_cases h4:s.kind=4
  ·rw [El h4]
   by_cases hw:iE l (aA l).at_ (aA l).made s (lQ l (aA l).at_ (aA l).made s.at_ s)=0
   ·simp only [h4,hw,and_self,if_true,Option.isSome_some,Option.getD_some,decide_true,Bool.true_and,Bool.and_true]
   ·simp only [hw,and_false,if_false,Option.isSome_none,Bool.false_and,decide_false,Bool.and_false]
  ·simp only [h4,false_and,if_false,Option.isSome_none,Bool.false_and,decide_false]
end
section
section
attribute [local irreducible] SW RW aG SC aj an eO
variable (l:List ag) (hl:l.length<1000000000)
include hl
theorem nT (d:Dt)(k:Nat):aG Tryz.prog ref10_Find.f [ops l,.agg d.cells] [] k 0 (.cN [.agg (jx l d).cells,bl (aT l d).isSome]) []:=oy l (by omega) d k
theorem Ji (d:Dt)(o:ag):Go.Sl.Pure Tryz.prog ref17_before.f [ops l,.agg d.cells,.agg o.cells] (bl (nq l d o)):=by
 have hf:=nT l hl d
 have e:nq l d o=((aT l d).isSome && (jx l d).before o):=rfl
 rw [e]
 obtain ⟨a,ha⟩:∃ a,jx l d=a:=⟨_,rfl⟩
 rw [ha] at hf ⊢
 refine ref17_before.enter (by first | rfl | simp [SV.ok,SV.av]) (by first | rfl | simp [Hp.ok,Ob.ok,SV.ok,SV.av,aJ.ah]) (by simp) ?_
 dsimp only [ref17_before.s,Co.M,Co.G,Co.J,Co.H,Co.N,Co.F,Co.C,Co.Z,Co.B,Co.b8,Co.ay,Co.bz,Co.i6,Co.z8,Co.bC]
 rcases hi:(aT l d).isSome with _ | _
 ·(repeat (first | refine SW.seq ?_ | refine SW.block ?_ | refine SW.g2 [0,1,2,4,5,6,7,8] mixed (hi) hf (bV a o) ?_ | refine SW.skip ?_ | refine SW.exit ?_ | refine SW.ret ?_ | refine SW.ak rfl ?_ | refine SW.ai rfl ?_))
  exact End.mk [] (h4:=⟨rfl,rfl⟩)
 ·(repeat (first | refine SW.seq ?_ | refine SW.block ?_ | refine SW.g2 [0,1,2,4,5,6,7,8] mixed (hi) hf (bV a o) ?_ | refine SW.skip ?_ | refine SW.exit ?_ | refine SW.ret ?_ | refine SW.ak rfl ?_ | refine SW.ai rfl ?_))
  exact End.mk [] (h4:=⟨by rw [Bool.true_and];rfl,rfl⟩)
theorem wK (d:Dt)(o:ag)(k:Nat):aG Tryz.prog ref17_before.f [ops l,.agg d.cells,.agg o.cells] [] k 0 (bl (nq l d o)) []:=(Ji l hl d o).sc rfl k
theorem Bt (o:ag):Go.Sl.Pure Tryz.prog ref17_cart.f [ops l,.agg o.cells] (bl (oZ l o)):=by
 have hf:=nT l hl o.aQ
 refine ref17_cart.enter (by first | rfl | simp [SV.ok,SV.av]) (by first | rfl | simp [Hp.ok,Ob.ok,SV.ok,SV.av,aJ.ah]) (by simp) ?_
 dsimp only [ref17_cart.s,Co.M,Co.G,Co.J,Co.H,Co.N,Co.F,Co.C,Co.Z,Co.B,Co.b8,Co.ay,Co.bz,Co.i6,Co.z8,Co.bC]
 by_cases hk:o.kind=0
 ·have z:((o.kind:Int) == 0)=true:=by rw [hk];rfl
  have e:oZ l o=decide (o.aQ=o.dot):=by unfold oZ;rw [if_pos hk]
  rw [e]
  (repeat (first | refine SW.seq ?_ | refine SW.block ?_ | refine SW.g0 [0,1,3,4,5,6,9] mixed (z) ?_ | refine SW.skip ?_ | refine SW.exit ?_ | refine SW.ret ?_ | refine SW.ak rfl ?_ | refine SW.ai rfl ?_))
  exact End.mk [] (h4:=⟨rfl,rfl⟩)
 have z:((o.kind:Int) == 0)=false:=by simp;exact hk
 obtain ⟨a,ha⟩:∃ a,jx l o.aQ=a:=⟨_,rfl⟩
 have e:oZ l o=((aT l o.aQ).isSome && (decide (a.kind=0) && (decide (a.aQ=o.aQ) && a.before o))):=by
  unfold oZ
  rw [if_neg hk]
  cases h:aT l o.aQ with
  | none=>rfl
  | some b=>
   have hb:a=b:=by rw [← ha,dO h]
   rw [dO h,hb,gi h]
 rw [e]
 rw [ha] at hf
 rcases hi:(aT l o.aQ).isSome with _ | _
 ·(repeat (first | refine SW.seq ?_ | refine SW.block ?_ | refine SW.g2 [0,1,3,4,5,6,9] mixed (And.intro (z) (hi)) hf (bV a o) ?_ | refine SW.skip ?_ | refine SW.exit ?_ | refine SW.ret ?_ | refine SW.ak rfl ?_ | refine SW.ai rfl ?_))
  exact End.mk [] (h4:=⟨rfl,rfl⟩)
 by_cases h1:a.kind=0
 rotate_left
 ·have z1:((a.kind:Int) == 0)=false:=by simp;exact h1
  (repeat (first | refine SW.seq ?_ | refine SW.block ?_ | refine SW.g2 [0,1,3,4,5,6,9] mixed (And.intro (z) (And.intro (hi) (z1))) hf (bV a o) ?_ | refine SW.skip ?_ | refine SW.exit ?_ | refine SW.ret ?_ | refine SW.ak rfl ?_ | refine SW.ai rfl ?_))
  exact End.mk [] (h4:=⟨by rw [decide_eq_false h1];rfl,rfl⟩)
 have z1:((a.kind:Int) == 0)=true:=by rw [h1];rfl
 rw [decide_eq_true h1]
 rcases h2:decide (a.aQ=o.aQ) with _ | _
 ·(repeat (first | refine SW.seq ?_ | refine SW.block ?_ | refine SW.g2 [0,1,3,4,5,6,9] mixed (And.intro (z) (And.intro (hi) (And.intro (z1) (h2)))) hf (bV a o) ?_ | refine SW.skip ?_ | refine SW.exit ?_ | refine SW.ret ?_ | refine SW.ak rfl ?_ | refine SW.ai rfl ?_))
  exact End.mk [] (h4:=⟨rfl,rfl⟩)
 ·(repeat (first | refine SW.seq ?_ | refine SW.block ?_ | refine SW.g2 [0,1,3,4,5,6,9] mixed (And.intro (z) (And.intro (hi) (And.intro (z1) (h2)))) hf (bV a o) ?_ | refine SW.skip ?_ | refine SW.exit ?_ | refine SW.ret ?_ | refine SW.ak rfl ?_ | refine SW.ai rfl ?_))
  exact End.mk [] (h4:=⟨by simp only [Bool.true_and];rfl,rfl⟩)
theorem Bu (o:ag)(k:Nat):aG Tryz.prog ref17_cart.f [ops l,.agg o.cells] [] k 0 (bl (oZ l o)) []:=(Bt l hl o).sc rfl k
variable (hr:∀ x,x∈l→x.aN<256)
include hr
set_option maxHeartbeats 4000000 in
theorem Bv (d:Dt)(o:ag):Go.Sl.Pure Tryz.prog ref17_cred.f [ops l,.agg d.cells,.agg o.cells] (.cN [.agg (cg l 10 d).1.cells,bl (pL l (aA l).at_ d o)]):=by
 have hg:=wu (by omega) hr d
 have hb:=wK l hl d o
 rw [GM]
 obtain ⟨⟨c,is⟩,hc⟩:∃ p,cg l 10 d=p:=⟨_,rfl⟩
 rw [hc] at hg ⊢
 dsimp only at hg ⊢
 obtain ⟨bf,hbf⟩:∃ b,nq l d o=b:=⟨_,rfl⟩
 rw [hbf] at hb ⊢
 refine ref17_cred.enter (by first | rfl | simp [SV.ok,SV.av]) (by first | rfl | simp [Hp.ok,Ob.ok,SV.ok,SV.av,aJ.ah]) (by simp) ?_
 dsimp only [ref17_cred.s,Co.M,Co.G,Co.J,Co.H,Co.N,Co.F,Co.C,Co.Z,Co.B,Co.b8,Co.ay,Co.bz,Co.i6,Co.z8,Co.bC]
 refine SW.seq ?_
 refine SW.g0 [0,1,2,4,5,6,7,8,9] mixed af ?_
 refine SW.seq ?_
 refine SW.g1 [0,1,2,4,5,6,7,8,9] mixed af hg ?_
 refine SW.seq ?_
 cases is with
 | false=>
  refine SW.g1 [0,1,2,4,5,6,7,8,9] mixed af hb ?_
  refine SW.ret ?_
  exact End.mk [] (h1:=by first | rfl | simp [AZ,lk,List.lookup,yE];rfl) (h4:=⟨rfl,rfl⟩)
 | true=>
  rcases h2:decide (c.aQ=o.aQ) with _ | _
  ·refine SW.g1 [0,1,2,4,5,6,7,8,9] mixed (h2) hb ?_
   refine SW.ret ?_
   exact End.mk [] (h4:=⟨rfl,rfl⟩)
  ·refine SW.g1 [0,1,2,4,5,6,7,8,9] mixed (h2) hb ?_
   refine SW.ret ?_
   exact End.mk [] (h4:=⟨by simp only [Bool.true_and];rfl,rfl⟩)
theorem vG (d:Dt)(o:ag)(k:Nat):aG Tryz.prog ref17_cred.f [ops l,.agg d.cells,.agg o.cells] [] k 0 (.cN [.agg (cg l 10 d).1.cells,bl (pL l (aA l).at_ d o)]) []:=(Bv l hl hr d o).sc rfl k
end
section
attribute [local irreducible] SW RW aG SC aj an
theorem Bw (q:Nat)(hq:q≤8):Go.Sl.Pure Tryz.prog ref17_Needs.f [u8 q] (u8 (eO q)):=by
 rcases (show q=0∨q=1∨q=2∨q=3∨q=4∨q=5∨q=6∨q=7∨q=8 by omega) with rfl | rfl | rfl | rfl | rfl | rfl | rfl | rfl | rfl
 all_goals
  refine ref17_Needs.enter (by first | rfl | simp [SV.ok,SV.av]) (by first | rfl | simp [Hp.ok,Ob.ok,SV.ok,SV.av,aJ.ah]) (by simp) ?_
  dsimp only [ref17_Needs.s,Co.M,Co.G,Co.J,Co.H,Co.N,Co.F,Co.C,Co.Z,Co.B,Co.b8,Co.ay,Co.bz,Co.i6,Co.z8,Co.bC]
  (repeat (first | refine SW.seq ?_ | refine SW.block ?_ | refine SW.g0 [0,2,3,4,7,12] mixed af ?_ | refine SW.skip ?_ | refine SW.exit ?_ | refine SW.ret ?_ | refine SW.ak rfl ?_ | refine SW.ai rfl ?_))
  exact End.mk [] (h4:=⟨rfl,rfl⟩)
theorem Bx (q:Nat)(hq:q≤8)(k:Nat):aG Tryz.prog ref17_Needs.f [u8 q] [] k 0 (u8 (eO q)) []:=(Bw q hq).sc rfl k
end
section
attribute [local irreducible] SW RW aG SC aj an eO
variable (l:List ag) (hl:l.length<1000000000) (hr:∀ x,x∈l→x.aN<256)
include hl hr
set_option maxHeartbeats 8000000 in
theorem nU (o:ag)(ho:o.aN<256)(t:Bool)(ht:∀ k,aG Tryz.prog ref17_target.f [ops l,.agg o.cells] [] k 0 (bl t) [])(h0:o.kind=0→t=true):
  Go.Sl.Pure Tryz.prog ref17_Why.f [ops l,.agg o.cells] (i64 (iE l (aA l).at_ (aA l).made o t)):=by
 have hct:=Bu l hl o
 have hcd:=vG l hl hr o.aV o
 refine ref17_Why.enter (by first | rfl | simp [SV.ok,SV.av]) (by first | rfl | simp [Hp.ok,Ob.ok,SV.ok,SV.av,aJ.ah]) (by simp) ?_
 dsimp only [ref17_Why.s,Co.M,Co.G,Co.J,Co.H,Co.N,Co.F,Co.C,Co.Z,Co.B,Co.b8,Co.ay,Co.bz,Co.i6,Co.z8,Co.bC]
 refine SW.seq ?_
 refine SW.g0 [0,1,3,4,5,6,9,13,16,26,31,39,48,52] mixed af ?_
 refine SW.seq (SW.seq ?_)
 by_cases h8:(o.kind:Int)>8
 ·have e:iE l (aA l).at_ (aA l).made o t=2:=by unfold iE;rw [decide_eq_true h8];rfl
  rw [e]
  have g:=decide_eq_true h8
  (repeat (first | refine SW.seq ?_ | refine SW.block ?_ | refine SW.g0 [0,1,3,4,5,6,9,13,16,26,31,39,48,52] mixed (g) ?_ | refine SW.skip ?_ | refine SW.exit ?_ | refine SW.ret ?_ | refine SW.ak rfl ?_ | refine SW.ai rfl ?_))
  exact End.mk [] (h4:=⟨rfl,rfl⟩)
 have g8:=decide_eq_false h8
 refine SW.g0 [0,1,3,4,5,6,9,13,16,26,31,39,48,52] mixed (g8) ?_
 refine SW.ai rfl (SW.skip ?_)
 refine SW.seq (SW.seq ?_)
 rcases hc:oZ l o with _ | _
 ·have e:iE l (aA l).at_ (aA l).made o t=271:=by unfold iE;rw [g8,hc];rfl
  rw [e]
  rw [hc] at hct
  (repeat (first | refine SW.seq ?_ | refine SW.block ?_ | refine SW.g1 [0,1,3,4,5,6,9,13,16,26,31,39,48,52] mixed af hct ?_ | refine SW.skip ?_ | refine SW.exit ?_ | refine SW.ret ?_ | refine SW.ak rfl ?_ | refine SW.ai rfl ?_))
  exact End.mk [] (h4:=⟨rfl,rfl⟩)
 rw [hc] at hct
 refine SW.g1 [0,1,3,4,5,6,9,13,16,26,31,39,48,52] mixed af hct ?_
 refine SW.ai rfl (SW.skip ?_)
 refine SW.seq (SW.seq ?_)
 by_cases kP:o.kind=0
 ·have z:((o.kind:Int) == 0)=true:=by rw [kP];rfl
  have e:iE l (aA l).at_ (aA l).made o t=0:=by
   unfold iE
   rw [g8,hc,z,kP,zy,h0 kP];rfl
  rw [e]
  (repeat (first | refine SW.seq ?_ | refine SW.block ?_ | refine SW.g0 [0,1,3,4,5,6,9,13,16,26,31,39,48,52] mixed (z) ?_ | refine SW.skip ?_ | refine SW.exit ?_ | refine SW.ret ?_ | refine SW.ak rfl ?_ | refine SW.ai rfl ?_))
  exact End.mk [] (h4:=⟨rfl,rfl⟩)
 have z:((o.kind:Int) == 0)=false:=by simp;exact kP
 refine SW.g0 [0,1,3,4,5,6,9,13,16,26,31,39,48,52] mixed (z) ?_
 refine SW.ai rfl (SW.skip ?_)
 refine SW.seq ?_
 rcases hd:pL l (aA l).at_ o.aV o with _ | _
 ·have e:iE l (aA l).at_ (aA l).made o t=272:=by unfold iE;rw [g8,hc,z,hd];rfl
  rw [e]
  rw [hd] at hcd
  refine SW.g1 [0,1,3,4,5,6,9,13,16,26,31,39,48,52] mixed af hcd ?_
  (repeat (first | refine SW.seq ?_ | refine SW.block ?_ | refine SW.g0 [0,1,3,4,5,6,9,13,16,26,31,39,48,52] mixed af ?_ | refine SW.skip ?_ | refine SW.exit ?_ | refine SW.ret ?_ | refine SW.ak rfl ?_ | refine SW.ai rfl ?_))
  exact End.mk [] (h4:=⟨rfl,rfl⟩)
 rw [hd,GN hd] at hcd
 obtain ⟨c,hcr⟩:∃ c,(MM.get (aA l).at_ o.aV).getD Cr.zero=c:=⟨_,rfl⟩
 rw [hcr] at hcd
 refine SW.g1 [0,1,3,4,5,6,9,13,16,26,31,39,48,52] mixed af hcd ?_
 refine SW.seq (SW.seq ?_)
 refine SW.g0 [0,1,3,4,5,6,9,13,16,26,31,39,48,52] mixed af ?_
 refine SW.ai rfl (SW.skip ?_)
 refine SW.seq (SW.seq ?_)
 rcases hh:((c.hold:Int) != (o.who:Int)) with _ | _
 rotate_left
 ·have e:iE l (aA l).at_ (aA l).made o t=273:=by unfold iE;rw [g8,hc,z,hd,hcr,hh];rfl
  rw [e]
  (repeat (first | refine SW.seq ?_ | refine SW.block ?_ | refine SW.g0 [0,1,3,4,5,6,9,13,16,26,31,39,48,52] mixed (hh) ?_ | refine SW.skip ?_ | refine SW.exit ?_ | refine SW.ret ?_ | refine SW.ak rfl ?_ | refine SW.ai rfl ?_))
  exact End.mk [] (h4:=⟨rfl,rfl⟩)
 refine SW.g0 [0,1,3,4,5,6,9,13,16,26,31,39,48,52] mixed (hh) ?_
 refine SW.ai rfl (SW.skip ?_)
 refine SW.seq (SW.seq ?_)
 have hk8:o.kind≤8:=by omega
 obtain ⟨hq1,hq2⟩:=Ej (c:=c) kP hk8
 have hn:=Bx o.kind hk8
 obtain ⟨nv,hnv⟩:∃ nv,eO o.kind=nv:=⟨_,rfl⟩
 rw [hnv] at hq1 hq2 hn
 rcases hb:lP c o.kind with _ | _
 rotate_left
 ·have e:iE l (aA l).at_ (aA l).made o t=274:=by unfold iE;rw [g8,hc,z,hd,hcr,hh,hb];rfl
  rw [e]
  rw [hb] at hq1
  refine SW.g1 [0,1,3,4,5,6,9,13,16,26,31,39,48,52] mixed (hq1) hn ?_
  (repeat (first | refine SW.seq ?_ | refine SW.block ?_ | refine SW.g0 [0,1,3,4,5,6,9,13,16,26,31,39,48,52] mixed af ?_ | refine SW.skip ?_ | refine SW.exit ?_ | refine SW.ret ?_ | refine SW.ak rfl ?_ | refine SW.ai rfl ?_))
  exact End.mk [] (h4:=⟨rfl,rfl⟩)
 rw [hb] at hq1
 refine SW.g1 [0,1,3,4,5,6,9,13,16,26,31,39,48,52] mixed (hq1) hn ?_
 refine SW.ai rfl (SW.skip ?_)
 refine SW.seq (SW.seq ?_)
 have hw:=Ge (by omega) hr o ho
 have B4:=Gw l o
 rw [← B4] at hw
 obtain ⟨w,hww⟩:∃ w,Ax (aA l).at_ (aA l).made o=w:=⟨_,rfl⟩
 rw [hww] at hw
 by_cases h1:o.kind=1
 ·have z1:((o.kind:Int) == 1)=true:=by rw [h1];rfl
  by_cases hw0:w=0
  rotate_left
  ·have zw:((w:Int) != 0)=true:=by simp;exact hw0
   have e:iE l (aA l).at_ (aA l).made o t=275:=by
    unfold iE;rw [g8,hc,z,hd,hcr,hh,hb,hww,decide_eq_true h1,decide_eq_true hw0];rfl
   rw [e]
   refine SW.g1 [0,1,3,4,5,6,9,13,16,26,31,39,48,52] mixed (And.intro (z1) (zw)) hw ?_
   (repeat (first | refine SW.seq ?_ | refine SW.block ?_ | refine SW.g0 [0,1,3,4,5,6,9,13,16,26,31,39,48,52] mixed af ?_ | refine SW.skip ?_ | refine SW.exit ?_ | refine SW.ret ?_ | refine SW.ak rfl ?_ | refine SW.ai rfl ?_))
   exact End.mk [] (h4:=⟨rfl,rfl⟩)
  have zw:((w:Int) != 0)=false:=by simp;exact hw0
  have e:iE l (aA l).at_ (aA l).made o t=if !t then 276 else 0:=by
   unfold iE;rw [g8,hc,z,hd,hcr,hh,hb,hww,decide_eq_true h1,decide_eq_false (fun h=>h hw0)];rfl
  rw [e]
  refine SW.g1 [0,1,3,4,5,6,9,13,16,26,31,39,48,52] mixed (And.intro (z1) (zw)) hw ?_
  refine SW.ai rfl (SW.skip ?_)
  cases t
  ·(repeat (first | refine SW.seq ?_ | refine SW.block ?_ | refine SW.g1 [0,1,3,4,5,6,9,13,16,26,31,39,48,52] mixed af ht ?_ | refine SW.skip ?_ | refine SW.exit ?_ | refine SW.ret ?_ | refine SW.ak rfl ?_ | refine SW.ai rfl ?_))
   exact End.mk [] (h4:=⟨rfl,rfl⟩)
  ·(repeat (first | refine SW.seq ?_ | refine SW.block ?_ | refine SW.g1 [0,1,3,4,5,6,9,13,16,26,31,39,48,52] mixed af ht ?_ | refine SW.skip ?_ | refine SW.exit ?_ | refine SW.ret ?_ | refine SW.ak rfl ?_ | refine SW.ai rfl ?_))
   exact End.mk [] (h4:=⟨rfl,rfl⟩)
 have z1:((o.kind:Int) == 1)=false:=by simp;omega
 have e:iE l (aA l).at_ (aA l).made o t=if !t then 276 else 0:=by
  unfold iE;rw [g8,hc,z,hd,hcr,hh,hb,decide_eq_false h1];rfl
 rw [e]
 refine SW.g0 [0,1,3,4,5,6,9,13,16,26,31,39,48,52] mixed (z1) ?_
 refine SW.ai rfl (SW.skip ?_)
 cases t
 ·(repeat (first | refine SW.seq ?_ | refine SW.block ?_ | refine SW.g1 [0,1,3,4,5,6,9,13,16,26,31,39,48,52] mixed af ht ?_ | refine SW.skip ?_ | refine SW.exit ?_ | refine SW.ret ?_ | refine SW.ak rfl ?_ | refine SW.ai rfl ?_))
  exact End.mk [] (h4:=⟨rfl,rfl⟩)
 ·(repeat (first | refine SW.seq ?_ | refine SW.block ?_ | refine SW.g1 [0,1,3,4,5,6,9,13,16,26,31,39,48,52] mixed af ht ?_ | refine SW.skip ?_ | refine SW.exit ?_ | refine SW.ret ?_ | refine SW.ak rfl ?_ | refine SW.ai rfl ?_))
  exact End.mk [] (h4:=⟨rfl,rfl⟩)
end
end
end Go.Proofs.YtaelhkkjgfobhaaGreat
