/-
 Operations' forms: the document's check.
-/
import Derived.Test.YtaelhkkjgfobhaaGreatK6
import Derived.Test.YtaelhkkjgfobhaaGreatKT
import Derived.Test.YtaelhkkjgfobhaaGreatKV
import Derived.Test.YtaelhkkjgfobhaaGreatKA
set_option linter.unusedSectionVars false
set_option linter.unusedVariables false
set_option linter.unusedSimpArgs false
namespace Go.Proofs.YtaelhkkjgfobhaaGreat
open Go.Sl Go.Proofs
section
attribute [local irreducible] SW RW aM SC ak au
theorem aA {n:Int}{o:ag}(h1: ¬ (n<1∨8<n))(h: ¬ Go.Sl.Form n.toNat o):gj n o=5:=by unfold gj;rw [if_neg h1,if_neg h]
theorem tZ {n:Int}{o:ag}(h1:n<1∨8<n):gj n o=2:=by unfold gj;rw [if_pos h1]
theorem Bl (o:ag)(hk:o.kind≤8)(hl:o.ow)(k:Nat):aM Tryz.prog ref05_zero.f [.agg o.cells] [] k 0 (bl (zeroV (aS o.kind) o o.cl.length)) []:=by
 have h:o.kind=0∨o.kind=1∨o.kind=2∨o.kind=3∨o.kind=4∨o.kind=5∨o.kind=6∨o.kind=7∨o.kind=8:=by omega
 have hk':o.kind<256:=by omega
 rcases h with h | h | h | h | h | h | h | h | h
 ·have e:aS o.kind=[]:=by rw [h];rfl
  rw [e];exact (Iu o _ _ hl.eq hk' e).sc rfl k
 ·have e:aS o.kind=[99,116,114,100,112]:=by rw [h];rfl
  rw [e];exact (Iv o _ _ hl.eq hk' e).sc rfl k
 ·have e:aS o.kind=[99,97]:=by rw [h];rfl
  rw [e];exact (Et o _ _ hl.eq hk' e).sc rfl k
 ·have e:aS o.kind=[99,105,113,101]:=by rw [h];rfl
  rw [e];exact (Iw o _ _ hl.eq hk' e).sc rfl k
 ·have e:aS o.kind=[99,97,113]:=by rw [h];rfl
  rw [e];exact (Iy o _ _ hl.eq hk' e).sc rfl k
 ·have e:aS o.kind=[99,97]:=by rw [h];rfl
  rw [e];exact (Et o _ _ hl.eq hk' e).sc rfl k
 ·have e:aS o.kind=[99,97,118]:=by rw [h];rfl
  rw [e];exact (Eu o _ _ hl.eq hk' e).sc rfl k
 ·have e:aS o.kind=[99,97,118]:=by rw [h];rfl
  rw [e];exact (Eu o _ _ hl.eq hk' e).sc rfl k
 ·have e:aS o.kind=[99,108]:=by rw [h];rfl
  rw [e];exact (Iz o _ _ hl.eq hk' e).sc rfl k
set_option maxHeartbeats 16000000 in
theorem Ew (o:ag)(n:Int)(hd:o.dot.wf)(hk:o.kind<256)(hl:o.ow):Go.Sl.Pure Tryz.prog ref05_Check.f [.agg o.cells,.d (.int .i64 n)] (.d (.int .i64 (gj n o))):=by
 refine ref05_Check.enter (by first | rfl | simp [SV.ok,SV.ay]) (by first | rfl | simp [Hp.ok,Ob.ok,SV.ok,SV.ay,aL.ai]) (by simp) ?_
 dsimp only [ref05_Check.s,Co.M,Co.G,Co.J,Co.H,Co.N,Co.F,Co.C,Co.Z,Co.B,Co.b8,Co.aB,Co.bL,Co.i6,Co.z8,Co.bU]
 refine SW.seq ?_
 refine SW.g0 [0,1,2,4,5,6,12,62,65,72,130,185] mixed af ?_
 refine SW.seq (SW.seq ?_)
 refine SW.gB [0,1,2,4,5,6,12,62,65,72,130,185] mixed af True.intro ?_
 rcases a1:decide (n<1) with _ | _
 rotate_left
 ·rw [tZ (.inl (by simpa using a1))]
  refine RW.gE af True.intro ?_
  refine SW.ah rfl (SW.seq ?_)
  refine SW.g0 [0,1,2,4,5,6,12,62,65,72,130,185] mixed af ?_
  refine SW.ret ?_
  exact End.mk [] (h4:=⟨rfl,rfl⟩)
 refine RW.gG af True.intro ?_
 rcases a2:decide (n>8) with _ | _
 rotate_left
 ·rw [tZ (.inr (by simpa using a2))]
  refine RW.gE af True.intro ?_
  refine SW.ah rfl (SW.seq ?_)
  refine SW.g0 [0,1,2,4,5,6,12,62,65,72,130,185] mixed af ?_
  refine SW.ret ?_
  exact End.mk [] (h4:=⟨rfl,rfl⟩)
 refine RW.gE af True.intro ?_
 refine SW.aj rfl (SW.skip ?_)
 have hn: ¬ (n<1∨8<n):=by simp at a1 a2;omega
 obtain ⟨m,rfl⟩:=Int.eq_ofNat_of_zero_le (show 0≤n by omega)
 have hm:m≤8:=by omega
 have hd2:o.dot.n<4294967296:=hd.2
 have e0:IntKind.i64.wrap (o.dot.r:Int)=o.dot.r:=wrap_i64 _ (by have:=hd.1;omega)
 refine SW.seq (SW.seq ?_)
 refine SW.gB [0,1,2,4,5,6,12,62,65,72,130,185] mixed (e0) True.intro ?_
 rcases b1:decide ((o.dot.r:Int)≥(m:Int)) with _ | _
 rotate_left
 ·rw [aA hn (fun h=>by have h:Go.Sl.Form m o:=h;exact absurd h.r (by simp at b1;omega))]
  refine RW.gE af True.intro ?_
  refine SW.ah rfl (SW.seq ?_)
  refine SW.g0 [0,1,2,4,5,6,12,62,65,72,130,185] mixed af ?_
  refine SW.ret ?_
  exact End.mk [] (h4:=⟨rfl,rfl⟩)
 refine RW.gG af True.intro ?_
 rcases b2:((o.dot.n:Int) == 0) with _ | _
 rotate_left
 ·rw [aA hn (fun h=>by have h:Go.Sl.Form m o:=h;exact absurd h.pos (by simp at b2;omega))]
  refine RW.gE af True.intro ?_
  refine SW.ah rfl (SW.seq ?_)
  refine SW.g0 [0,1,2,4,5,6,12,62,65,72,130,185] mixed af ?_
  refine SW.ret ?_
  exact End.mk [] (h4:=⟨rfl,rfl⟩)
 have hr8:o.dot.r<8:=by simp at b1;omega
 have hpos:0<o.dot.n:=by simp at b2;omega
 have e3:IntKind.u32.wrap ((o.dot.n:Int) - 1)=((o.dot.n - 1:Nat):Int):=by rw [wrap_u32' _ (by omega)];omega
 refine RW.gG (And.intro (e3) (jb o hr8)) True.intro ?_
 rcases b3:((o.dep.get o.dot.r:Int) != ((o.dot.n - 1:Nat):Int)) with _ | _
 rotate_left
 ·rw [aA hn (fun h=>by have h:Go.Sl.Form m o:=h;exact absurd h.own (by simp at b3;omega))]
  refine RW.gE af True.intro ?_
  refine SW.ah rfl (SW.seq ?_)
  refine SW.g0 [0,1,2,4,5,6,12,62,65,72,130,185] mixed af ?_
  refine SW.ret ?_
  exact End.mk [] (h4:=⟨rfl,rfl⟩)
 refine RW.gG af True.intro ?_
 rcases b4:decide ((o.time:Int)<1) with _ | _
 rotate_left
 ·rw [aA hn (fun h=>by have h:Go.Sl.Form m o:=h;exact absurd h.t1 (by simp at b4;omega))]
  refine RW.gE af True.intro ?_
  refine SW.ah rfl (SW.seq ?_)
  refine SW.g0 [0,1,2,4,5,6,12,62,65,72,130,185] mixed af ?_
  refine SW.ret ?_
  exact End.mk [] (h4:=⟨rfl,rfl⟩)
 refine RW.gG af True.intro ?_
 rcases b5:decide ((o.time:Int)>281474976710656) with _ | _
 rotate_left
 ·rw [aA hn (fun h=>by have h:Go.Sl.Form m o:=h;exact absurd h.t2 (by simp at b5;omega))]
  refine RW.gE af True.intro ?_
  refine SW.ah rfl (SW.seq ?_)
  refine SW.g0 [0,1,2,4,5,6,12,62,65,72,130,185] mixed af ?_
  refine SW.ret ?_
  exact End.mk [] (h4:=⟨rfl,rfl⟩)
 refine RW.gG af True.intro ?_
 rcases b6:((o.who:Int) == 0) with _ | _
 rotate_left
 ·rw [aA hn (fun h=>by have h:Go.Sl.Form m o:=h;exact absurd h.who (by simp at b6;omega))]
  refine RW.gE af True.intro ?_
  refine SW.ah rfl (SW.seq ?_)
  refine SW.g0 [0,1,2,4,5,6,12,62,65,72,130,185] mixed af ?_
  refine SW.ret ?_
  exact End.mk [] (h4:=⟨rfl,rfl⟩)
 refine RW.gG af True.intro ?_
 rcases b7:decide ((o.kind:Int)>8) with _ | _
 rotate_left
 ·rw [aA hn (fun h=>by have h:Go.Sl.Form m o:=h;exact absurd h.kind (by simp at b7;omega))]
  refine RW.gE af True.intro ?_
  refine SW.ah rfl (SW.seq ?_)
  refine SW.g0 [0,1,2,4,5,6,12,62,65,72,130,185] mixed af ?_
  refine SW.ret ?_
  exact End.mk [] (h4:=⟨rfl,rfl⟩)
 have hk8:o.kind≤8:=by simp at b7;omega
 have hz:=Bl o hk8 hl
 have cz:=And.intro hz True.intro
 refine RW.gG af cz ?_
 rcases b8:zeroV (aS o.kind) o o.cl.length with _ | _
 ·rw [aA hn (fun h=>by have h:Go.Sl.Form m o:=h;exact by have:=h.zero;rw [b8] at this;cases this)]
  refine RW.gE af cz ?_
  refine SW.ah rfl (SW.seq ?_)
  refine SW.g1 [0,1,2,4,5,6,12,62,65,72,130,185] mixed af hz ?_
  refine SW.ret ?_
  exact End.mk [] (h4:=⟨rfl,rfl⟩)
 refine RW.gE af cz ?_
 refine SW.aj rfl (SW.skip ?_)
 have h0s:(aS o.kind).length<4611686018427387904:=by
  have:o.kind=0∨o.kind=1∨o.kind=2∨o.kind=3∨o.kind=4∨o.kind=5∨o.kind=6∨o.kind=7∨o.kind=8:=by omega
  rcases this with h | h | h | h | h | h | h | h | h <;> rw [h] <;> decide
 refine SW.seq (SW.seq ?_)
 refine SW.g1 [0,1,2,4,5,6,12,62,65,72,130,185] mixed af hz ?_
 refine SW.block ?_
 refine SW.gR (α:={i:Nat // m≤i∧i≤8∧∀ r,m≤r→r<i→o.dep.get r=0}) (fun i=>⟨[(5,i64 i.1),(2,.ptr 0 0)],[(0,.box 43 o.cells)],1⟩) (fun i=>8 - i.1) ⟨m,Nat.le_refl _,hm,fun r h1 h2=>by omega⟩ id af (round:= ?_)
 rintro ⟨i,hmi,hi,hs⟩
 by_cases h:i<8
 ·have h1:decide ((i:Int)<8)=true:=by simp;omega
  have e2:IntKind.i64.wrap ((i:Int)+1)=((i+1:Nat):Int):=wrap_i64 _ (by omega)
  refine SW.seq (SW.seq ?_)
  refine SW.g1 [0,1,2,4,5,6,12,62,65,72,130,185] mixed (h1) hz ?_
  refine SW.ah rfl (SW.skip ?_)
  refine SW.seq (SW.block (SW.seq ?_))
  rcases c1:((o.dep.get i:Int) != 0) with _ | _
  ·refine SW.g1 [0,1,2,4,5,6,12,62,65,72,130,185] mixed (And.intro (jb o h) (c1)) hz ?_
   refine SW.aj rfl (SW.skip ?_)
   refine SW.g1 [0,1,2,4,5,6,12,62,65,72,130,185] mixed (e2) hz ?_
   dsimp only
   exact ⟨⟨i+1,by omega,by omega,fun r h1 h2=>by
    by_cases hri:r=i
    ·subst hri;simp at c1;omega
    ·exact hs r h1 (by omega)⟩,id,by show 8 - (i+1)<_;omega,aJ.mk af⟩
  ·rw [aA hn (fun h'=>by have h':Go.Sl.Form m o:=h';exact absurd (h'.Gp i hmi h) (by simp at c1;omega))]
   refine SW.g1 [0,1,2,4,5,6,12,62,65,72,130,185] mixed (And.intro (jb o h) (c1)) hz ?_
   refine SW.ah rfl (SW.seq ?_)
   refine SW.g1 [0,1,2,4,5,6,12,62,65,72,130,185] mixed af hz ?_
   refine SW.ret ?_
   exact End.mk [] (h4:=⟨rfl,rfl⟩)
 have h1:decide ((i:Int)<8)=false:=by simp;omega
 have hfar:∀ r,m≤r→r<8→o.dep.get r=0:=fun r h1 h2=>hs r h1 (by omega)
 refine SW.seq (SW.seq ?_)
 refine SW.g1 [0,1,2,4,5,6,12,62,65,72,130,185] mixed (h1) hz ?_
 refine SW.aj rfl (SW.exit ?_)
 have hh:=ji o.kind hk
 refine SW.seq ?_
 have cz:=And.intro hh True.intro
 refine SW.g1 [0,1,2,4,5,6,12,62,65,72,130,185] mixed af hh ?_
 have v1:=lF o o.aG
 have v2:=lF o o.aK
 have v3:=lF o o.at_
 have v4:=lF o o.iK
 have vl:=y3 o o.cl hl.le hl.eq
 have hkk:o.kind=0∨o.kind=1∨(o.kind=2∨o.kind=5)∨o.kind=3∨o.kind=4∨(o.kind=6∨o.kind=7)∨o.kind=8:=by omega
 rcases hkk with hkd | hkd | hkd | hkd | hkd | hkd | hkd
 ·have hK:aS o.kind=[]:=by first | (rw [hkd];rfl) | (rcases hkd with h | h <;> rw [h] <;> rfl)
  have b99:decide (99∈aS o.kind)=false:=by rw [hK];decide
  have i99:=aq (aS o.kind) h0s 99
  rw [b99] at i99
  have b97:decide (97∈aS o.kind)=false:=by rw [hK];decide
  have i97:=aq (aS o.kind) h0s 97
  rw [b97] at i97
  have b118:decide (118∈aS o.kind)=false:=by rw [hK];decide
  have i118:=aq (aS o.kind) h0s 118
  rw [b118] at i118
  have b116:decide (116∈aS o.kind)=false:=by rw [hK];decide
  have i116:=aq (aS o.kind) h0s 116
  rw [b116] at i116
  have b113:decide (113∈aS o.kind)=false:=by rw [hK];decide
  have i113:=aq (aS o.kind) h0s 113
  rw [b113] at i113
  have b108:decide (108∈aS o.kind)=false:=by rw [hK];decide
  have i108:=aq (aS o.kind) h0s 108
  rw [b108] at i108
  have k0:((o.kind:Int) == 0)=true:=by rw [hkd];rfl
  have k1:((o.kind:Int) != 0)=false:=by rw [hkd];rfl
  refine SW.seq (SW.seq ?_)
  have cz:=And.intro v1 (And.intro v2 (And.intro v3 (And.intro v4 (And.intro vl (And.intro i99 (And.intro i97 (And.intro i118 (And.intro i116 (And.intro i113 (And.intro i108 True.intro))))))))))
  refine SW.gB [0,1,2,4,5,6,12,62,65,72,130,185] mixed (And.intro (k0) (k1)) cz ?_
  rcases g1:decide (o.aG=o.dot) with _ | _
  ·rw [aA hn (fun h=>by have h:Go.Sl.Form m o:=h;exact by have:=h.gen hkd;simp at g1;exact g1 this)]
   refine RW.gE (And.intro (k0) (k1)) cz ?_
   refine SW.ah rfl (SW.seq ?_)
   refine SW.gM [0,1,2,4,5,6,12,62,65,72,130,185] mixed af cz ?_
   refine SW.ret ?_
   exact End.mk [] (h4:=⟨rfl,rfl⟩)
  refine RW.gE (And.intro (k0) (k1)) cz ?_
  refine SW.aj rfl (SW.skip ?_)
  refine SW.seq (SW.seq ?_)
  refine SW.gB [0,1,2,4,5,6,12,62,65,72,130,185] mixed af cz ?_
  rcases p1:decide ((o.eu:Int)>16777215) with _ | _
  rotate_left
  ·rw [aA hn (fun h=>by have h:Go.Sl.Form m o:=h;exact absurd h.eu (by simp at p1;omega))]
   refine RW.gE af cz ?_
   refine SW.ah rfl (SW.seq ?_)
   refine SW.gM [0,1,2,4,5,6,12,62,65,72,130,185] mixed af cz ?_
   refine SW.ret ?_
   exact End.mk [] (h4:=⟨rfl,rfl⟩)
  refine RW.gE af cz ?_
  refine SW.aj rfl (SW.skip ?_)
  refine SW.seq ?_
  refine SW.gM [0,1,2,4,5,6,12,62,65,72,130,185] mixed af cz ?_
  refine SW.ret ?_
  have hF:Go.Sl.Form m o:=⟨by simp at b1;omega,hpos,by simp at b3;omega,by simp at b4;omega,by simp at b5;omega,by simp at b6;omega,hk8,b8,hfar,fun _=>of_decide_eq_true g1,fun h=>absurd hkd h,(fun h=>by have:=decide_eq_true h;rw [b99] at this;cases this),(fun h=>by have:=decide_eq_true h;rw [b97] at this;cases this),(fun h=>by have:=decide_eq_true h;rw [b118] at this;cases this),(fun h=>by have:=decide_eq_true h;rw [b116] at this;cases this),(fun h=>by have:=decide_eq_true h;rw [b113] at this;cases this),by simp at p1;omega,(fun h=>by have:=decide_eq_true h;rw [b108] at this;cases this)⟩
  have hV:gj (m:Int) o=0:=dX.2 ⟨by omega,by omega,hF⟩
  rw [hV]
  exact End.mk [] (h4:=⟨rfl,rfl⟩)
 ·have hK:aS o.kind=[99,116,114,100,112]:=by first | (rw [hkd];rfl) | (rcases hkd with h | h <;> rw [h] <;> rfl)
  have b99:decide (99∈aS o.kind)=true:=by rw [hK];decide
  have i99:=aq (aS o.kind) h0s 99
  rw [b99] at i99
  have b97:decide (97∈aS o.kind)=false:=by rw [hK];decide
  have i97:=aq (aS o.kind) h0s 97
  rw [b97] at i97
  have b118:decide (118∈aS o.kind)=false:=by rw [hK];decide
  have i118:=aq (aS o.kind) h0s 118
  rw [b118] at i118
  have b116:decide (116∈aS o.kind)=true:=by rw [hK];decide
  have i116:=aq (aS o.kind) h0s 116
  rw [b116] at i116
  have b113:decide (113∈aS o.kind)=false:=by rw [hK];decide
  have i113:=aq (aS o.kind) h0s 113
  rw [b113] at i113
  have b108:decide (108∈aS o.kind)=false:=by rw [hK];decide
  have i108:=aq (aS o.kind) h0s 108
  rw [b108] at i108
  have k0:((o.kind:Int) == 0)=false:=by simp;omega
  have k1:((o.kind:Int) != 0)=true:=by simp;omega
  refine SW.seq (SW.seq ?_)
  have cz:=And.intro v1 (And.intro v2 (And.intro v3 (And.intro v4 (And.intro vl (And.intro i99 (And.intro i97 (And.intro i118 (And.intro i116 (And.intro i113 (And.intro i108 True.intro))))))))))
  refine SW.gB [0,1,2,4,5,6,12,62,65,72,130,185] mixed (And.intro (k0) (k1)) cz ?_
  rcases g1:o.dep.bB o.aG with _ | _
  ·rw [aA hn (fun h=>by have h:Go.Sl.Form m o:=h;exact by have:=h.aG (by omega);rw [g1] at this;cases this)]
   refine RW.gE (And.intro (k0) (k1)) cz ?_
   refine SW.ah rfl (SW.seq ?_)
   refine SW.gM [0,1,2,4,5,6,12,62,65,72,130,185] mixed af cz ?_
   refine SW.ret ?_
   exact End.mk [] (h4:=⟨rfl,rfl⟩)
  refine RW.gG (And.intro (k0) (k1)) cz ?_
  rcases g2:o.dep.bB o.aK with _ | _
  ·rw [aA hn (fun h=>by have h:Go.Sl.Form m o:=h;exact by have:=h.aK (of_decide_eq_true b99);rw [g2] at this;cases this)]
   refine RW.gE (And.intro (k0) (k1)) cz ?_
   refine SW.ah rfl (SW.seq ?_)
   refine SW.gM [0,1,2,4,5,6,12,62,65,72,130,185] mixed af cz ?_
   refine SW.ret ?_
   exact End.mk [] (h4:=⟨rfl,rfl⟩)
  refine RW.gE (And.intro (k0) (k1)) cz ?_
  refine SW.aj rfl (SW.skip ?_)
  refine SW.seq (SW.seq ?_)
  refine SW.gB [0,1,2,4,5,6,12,62,65,72,130,185] mixed af cz ?_
  rcases t0:((o.to:Int) == 0) with _ | _
  rotate_left
  ·rw [aA hn (fun h=>by have h:Go.Sl.Form m o:=h;exact absurd (h.xw (of_decide_eq_true b116)).1 (by simp at t0;omega))]
   refine RW.gE af cz ?_
   refine SW.ah rfl (SW.seq ?_)
   refine SW.gM [0,1,2,4,5,6,12,62,65,72,130,185] mixed af cz ?_
   refine SW.ret ?_
   exact End.mk [] (h4:=⟨rfl,rfl⟩)
  refine RW.gG af cz ?_
  rcases t1:decide ((o.bp:Int)<1) with _ | _
  rotate_left
  ·rw [aA hn (fun h=>by have h:Go.Sl.Form m o:=h;exact absurd (h.xw (of_decide_eq_true b116)).2.1 (by simp at t1;omega))]
   refine RW.gE af cz ?_
   refine SW.ah rfl (SW.seq ?_)
   refine SW.gM [0,1,2,4,5,6,12,62,65,72,130,185] mixed af cz ?_
   refine SW.ret ?_
   exact End.mk [] (h4:=⟨rfl,rfl⟩)
  refine RW.gG af cz ?_
  rcases t2:decide ((o.bp:Int)>7) with _ | _
  rotate_left
  ·rw [aA hn (fun h=>by have h:Go.Sl.Form m o:=h;exact absurd (h.xw (of_decide_eq_true b116)).2.2.1 (by simp at t2;omega))]
   refine RW.gE af cz ?_
   refine SW.ah rfl (SW.seq ?_)
   refine SW.gM [0,1,2,4,5,6,12,62,65,72,130,185] mixed af cz ?_
   refine SW.ret ?_
   exact End.mk [] (h4:=⟨rfl,rfl⟩)
  refine RW.gG af cz ?_
  rcases t3:decide ((o.depth:Int)>7) with _ | _
  rotate_left
  ·rw [aA hn (fun h=>by have h:Go.Sl.Form m o:=h;exact absurd (h.xw (of_decide_eq_true b116)).2.2.2.1 (by simp at t3;omega))]
   refine RW.gE af cz ?_
   refine SW.ah rfl (SW.seq ?_)
   refine SW.gM [0,1,2,4,5,6,12,62,65,72,130,185] mixed af cz ?_
   refine SW.ret ?_
   exact End.mk [] (h4:=⟨rfl,rfl⟩)
  refine RW.gG af cz ?_
  rcases t4:decide ((o.cap:Int)>1099511627776) with _ | _
  rotate_left
  ·rw [aA hn (fun h=>by have h:Go.Sl.Form m o:=h;exact absurd (h.xw (of_decide_eq_true b116)).2.2.2.2 (by simp at t4;omega))]
   refine RW.gE af cz ?_
   refine SW.ah rfl (SW.seq ?_)
   refine SW.gM [0,1,2,4,5,6,12,62,65,72,130,185] mixed af cz ?_
   refine SW.ret ?_
   exact End.mk [] (h4:=⟨rfl,rfl⟩)
  refine RW.gG af cz ?_
  rcases p1:decide ((o.eu:Int)>16777215) with _ | _
  rotate_left
  ·rw [aA hn (fun h=>by have h:Go.Sl.Form m o:=h;exact absurd h.eu (by simp at p1;omega))]
   refine RW.gE af cz ?_
   refine SW.ah rfl (SW.seq ?_)
   refine SW.gM [0,1,2,4,5,6,12,62,65,72,130,185] mixed af cz ?_
   refine SW.ret ?_
   exact End.mk [] (h4:=⟨rfl,rfl⟩)
  refine RW.gE af cz ?_
  refine SW.aj rfl (SW.skip ?_)
  refine SW.seq ?_
  refine SW.gM [0,1,2,4,5,6,12,62,65,72,130,185] mixed af cz ?_
  refine SW.ret ?_
  have hF:Go.Sl.Form m o:=⟨by simp at b1;omega,hpos,by simp at b3;omega,by simp at b4;omega,by simp at b5;omega,by simp at b6;omega,hk8,b8,hfar,fun h=>by omega,fun _=>g1,fun _=>g2,(fun h=>by have:=decide_eq_true h;rw [b97] at this;cases this),(fun h=>by have:=decide_eq_true h;rw [b118] at this;cases this),fun _=>⟨by simp at t0;omega,by simp at t1;omega,by simp at t2;omega,by simp at t3;omega,by simp at t4;omega⟩,(fun h=>by have:=decide_eq_true h;rw [b113] at this;cases this),by simp at p1;omega,(fun h=>by have:=decide_eq_true h;rw [b108] at this;cases this)⟩
  have hV:gj (m:Int) o=0:=dX.2 ⟨by omega,by omega,hF⟩
  rw [hV]
  exact End.mk [] (h4:=⟨rfl,rfl⟩)
 ·have hK:aS o.kind=[99,97]:=by first | (rw [hkd];rfl) | (rcases hkd with h | h <;> rw [h] <;> rfl)
  have b99:decide (99∈aS o.kind)=true:=by rw [hK];decide
  have i99:=aq (aS o.kind) h0s 99
  rw [b99] at i99
  have b97:decide (97∈aS o.kind)=true:=by rw [hK];decide
  have i97:=aq (aS o.kind) h0s 97
  rw [b97] at i97
  have b118:decide (118∈aS o.kind)=false:=by rw [hK];decide
  have i118:=aq (aS o.kind) h0s 118
  rw [b118] at i118
  have b116:decide (116∈aS o.kind)=false:=by rw [hK];decide
  have i116:=aq (aS o.kind) h0s 116
  rw [b116] at i116
  have b113:decide (113∈aS o.kind)=false:=by rw [hK];decide
  have i113:=aq (aS o.kind) h0s 113
  rw [b113] at i113
  have b108:decide (108∈aS o.kind)=false:=by rw [hK];decide
  have i108:=aq (aS o.kind) h0s 108
  rw [b108] at i108
  have k0:((o.kind:Int) == 0)=false:=by simp;omega
  have k1:((o.kind:Int) != 0)=true:=by simp;omega
  refine SW.seq (SW.seq ?_)
  have cz:=And.intro v1 (And.intro v2 (And.intro v3 (And.intro v4 (And.intro vl (And.intro i99 (And.intro i97 (And.intro i118 (And.intro i116 (And.intro i113 (And.intro i108 True.intro))))))))))
  refine SW.gB [0,1,2,4,5,6,12,62,65,72,130,185] mixed (And.intro (k0) (k1)) cz ?_
  rcases g1:o.dep.bB o.aG with _ | _
  ·rw [aA hn (fun h=>by have h:Go.Sl.Form m o:=h;exact by have:=h.aG (by omega);rw [g1] at this;cases this)]
   refine RW.gE (And.intro (k0) (k1)) cz ?_
   refine SW.ah rfl (SW.seq ?_)
   refine SW.gM [0,1,2,4,5,6,12,62,65,72,130,185] mixed af cz ?_
   refine SW.ret ?_
   exact End.mk [] (h4:=⟨rfl,rfl⟩)
  refine RW.gG (And.intro (k0) (k1)) cz ?_
  rcases g2:o.dep.bB o.aK with _ | _
  ·rw [aA hn (fun h=>by have h:Go.Sl.Form m o:=h;exact by have:=h.aK (of_decide_eq_true b99);rw [g2] at this;cases this)]
   refine RW.gE (And.intro (k0) (k1)) cz ?_
   refine SW.ah rfl (SW.seq ?_)
   refine SW.gM [0,1,2,4,5,6,12,62,65,72,130,185] mixed af cz ?_
   refine SW.ret ?_
   exact End.mk [] (h4:=⟨rfl,rfl⟩)
  refine RW.gG (And.intro (k0) (k1)) cz ?_
  rcases g3:o.dep.bB o.at_ with _ | _
  ·rw [aA hn (fun h=>by have h:Go.Sl.Form m o:=h;exact by have:=h.at_ (of_decide_eq_true b97);rw [g3] at this;cases this)]
   refine RW.gE (And.intro (k0) (k1)) cz ?_
   refine SW.ah rfl (SW.seq ?_)
   refine SW.gM [0,1,2,4,5,6,12,62,65,72,130,185] mixed af cz ?_
   refine SW.ret ?_
   exact End.mk [] (h4:=⟨rfl,rfl⟩)
  refine RW.gE (And.intro (k0) (k1)) cz ?_
  refine SW.aj rfl (SW.skip ?_)
  refine SW.seq (SW.seq ?_)
  refine SW.gB [0,1,2,4,5,6,12,62,65,72,130,185] mixed af cz ?_
  rcases p1:decide ((o.eu:Int)>16777215) with _ | _
  rotate_left
  ·rw [aA hn (fun h=>by have h:Go.Sl.Form m o:=h;exact absurd h.eu (by simp at p1;omega))]
   refine RW.gE af cz ?_
   refine SW.ah rfl (SW.seq ?_)
   refine SW.gM [0,1,2,4,5,6,12,62,65,72,130,185] mixed af cz ?_
   refine SW.ret ?_
   exact End.mk [] (h4:=⟨rfl,rfl⟩)
  refine RW.gE af cz ?_
  refine SW.aj rfl (SW.skip ?_)
  refine SW.seq ?_
  refine SW.gM [0,1,2,4,5,6,12,62,65,72,130,185] mixed af cz ?_
  refine SW.ret ?_
  have hF:Go.Sl.Form m o:=⟨by simp at b1;omega,hpos,by simp at b3;omega,by simp at b4;omega,by simp at b5;omega,by simp at b6;omega,hk8,b8,hfar,fun h=>by omega,fun _=>g1,fun _=>g2,fun _=>g3,(fun h=>by have:=decide_eq_true h;rw [b118] at this;cases this),(fun h=>by have:=decide_eq_true h;rw [b116] at this;cases this),(fun h=>by have:=decide_eq_true h;rw [b113] at this;cases this),by simp at p1;omega,(fun h=>by have:=decide_eq_true h;rw [b108] at this;cases this)⟩
  have hV:gj (m:Int) o=0:=dX.2 ⟨by omega,by omega,hF⟩
  rw [hV]
  exact End.mk [] (h4:=⟨rfl,rfl⟩)
 ·have hK:aS o.kind=[99,105,113,101]:=by first | (rw [hkd];rfl) | (rcases hkd with h | h <;> rw [h] <;> rfl)
  have b99:decide (99∈aS o.kind)=true:=by rw [hK];decide
  have i99:=aq (aS o.kind) h0s 99
  rw [b99] at i99
  have b97:decide (97∈aS o.kind)=false:=by rw [hK];decide
  have i97:=aq (aS o.kind) h0s 97
  rw [b97] at i97
  have b118:decide (118∈aS o.kind)=false:=by rw [hK];decide
  have i118:=aq (aS o.kind) h0s 118
  rw [b118] at i118
  have b116:decide (116∈aS o.kind)=false:=by rw [hK];decide
  have i116:=aq (aS o.kind) h0s 116
  rw [b116] at i116
  have b113:decide (113∈aS o.kind)=true:=by rw [hK];decide
  have i113:=aq (aS o.kind) h0s 113
  rw [b113] at i113
  have b108:decide (108∈aS o.kind)=false:=by rw [hK];decide
  have i108:=aq (aS o.kind) h0s 108
  rw [b108] at i108
  have k0:((o.kind:Int) == 0)=false:=by simp;omega
  have k1:((o.kind:Int) != 0)=true:=by simp;omega
  refine SW.seq (SW.seq ?_)
  have cz:=And.intro v1 (And.intro v2 (And.intro v3 (And.intro v4 (And.intro vl (And.intro i99 (And.intro i97 (And.intro i118 (And.intro i116 (And.intro i113 (And.intro i108 True.intro))))))))))
  refine SW.gB [0,1,2,4,5,6,12,62,65,72,130,185] mixed (And.intro (k0) (k1)) cz ?_
  rcases g1:o.dep.bB o.aG with _ | _
  ·rw [aA hn (fun h=>by have h:Go.Sl.Form m o:=h;exact by have:=h.aG (by omega);rw [g1] at this;cases this)]
   refine RW.gE (And.intro (k0) (k1)) cz ?_
   refine SW.ah rfl (SW.seq ?_)
   refine SW.gM [0,1,2,4,5,6,12,62,65,72,130,185] mixed af cz ?_
   refine SW.ret ?_
   exact End.mk [] (h4:=⟨rfl,rfl⟩)
  refine RW.gG (And.intro (k0) (k1)) cz ?_
  rcases g2:o.dep.bB o.aK with _ | _
  ·rw [aA hn (fun h=>by have h:Go.Sl.Form m o:=h;exact by have:=h.aK (of_decide_eq_true b99);rw [g2] at this;cases this)]
   refine RW.gE (And.intro (k0) (k1)) cz ?_
   refine SW.ah rfl (SW.seq ?_)
   refine SW.gM [0,1,2,4,5,6,12,62,65,72,130,185] mixed af cz ?_
   refine SW.ret ?_
   exact End.mk [] (h4:=⟨rfl,rfl⟩)
  refine RW.gE (And.intro (k0) (k1)) cz ?_
  refine SW.aj rfl (SW.skip ?_)
  refine SW.seq (SW.seq ?_)
  refine SW.gB [0,1,2,4,5,6,12,62,65,72,130,185] mixed af cz ?_
  rcases q0:decide ((o.r7:Int)<1) with _ | _
  rotate_left
  ·rw [aA hn (fun h=>by have h:Go.Sl.Form m o:=h;exact absurd (h.r7 (of_decide_eq_true b113)).1 (by simp at q0;omega))]
   refine RW.gE af cz ?_
   refine SW.ah rfl (SW.seq ?_)
   refine SW.gM [0,1,2,4,5,6,12,62,65,72,130,185] mixed af cz ?_
   refine SW.ret ?_
   exact End.mk [] (h4:=⟨rfl,rfl⟩)
  refine RW.gG af cz ?_
  rcases q1:decide ((o.r7:Int)>65535) with _ | _
  rotate_left
  ·rw [aA hn (fun h=>by have h:Go.Sl.Form m o:=h;exact absurd (h.r7 (of_decide_eq_true b113)).2 (by simp at q1;omega))]
   refine RW.gE af cz ?_
   refine SW.ah rfl (SW.seq ?_)
   refine SW.gM [0,1,2,4,5,6,12,62,65,72,130,185] mixed af cz ?_
   refine SW.ret ?_
   exact End.mk [] (h4:=⟨rfl,rfl⟩)
  refine RW.gG af cz ?_
  rcases p1:decide ((o.eu:Int)>16777215) with _ | _
  rotate_left
  ·rw [aA hn (fun h=>by have h:Go.Sl.Form m o:=h;exact absurd h.eu (by simp at p1;omega))]
   refine RW.gE af cz ?_
   refine SW.ah rfl (SW.seq ?_)
   refine SW.gM [0,1,2,4,5,6,12,62,65,72,130,185] mixed af cz ?_
   refine SW.ret ?_
   exact End.mk [] (h4:=⟨rfl,rfl⟩)
  refine RW.gE af cz ?_
  refine SW.aj rfl (SW.skip ?_)
  refine SW.seq ?_
  refine SW.gM [0,1,2,4,5,6,12,62,65,72,130,185] mixed af cz ?_
  refine SW.ret ?_
  have hF:Go.Sl.Form m o:=⟨by simp at b1;omega,hpos,by simp at b3;omega,by simp at b4;omega,by simp at b5;omega,by simp at b6;omega,hk8,b8,hfar,fun h=>by omega,fun _=>g1,fun _=>g2,(fun h=>by have:=decide_eq_true h;rw [b97] at this;cases this),(fun h=>by have:=decide_eq_true h;rw [b118] at this;cases this),(fun h=>by have:=decide_eq_true h;rw [b116] at this;cases this),fun _=>⟨by simp at q0;omega,by simp at q1;omega⟩,by simp at p1;omega,(fun h=>by have:=decide_eq_true h;rw [b108] at this;cases this)⟩
  have hV:gj (m:Int) o=0:=dX.2 ⟨by omega,by omega,hF⟩
  rw [hV]
  exact End.mk [] (h4:=⟨rfl,rfl⟩)
 ·have hK:aS o.kind=[99,97,113]:=by first | (rw [hkd];rfl) | (rcases hkd with h | h <;> rw [h] <;> rfl)
  have b99:decide (99∈aS o.kind)=true:=by rw [hK];decide
  have i99:=aq (aS o.kind) h0s 99
  rw [b99] at i99
  have b97:decide (97∈aS o.kind)=true:=by rw [hK];decide
  have i97:=aq (aS o.kind) h0s 97
  rw [b97] at i97
  have b118:decide (118∈aS o.kind)=false:=by rw [hK];decide
  have i118:=aq (aS o.kind) h0s 118
  rw [b118] at i118
  have b116:decide (116∈aS o.kind)=false:=by rw [hK];decide
  have i116:=aq (aS o.kind) h0s 116
  rw [b116] at i116
  have b113:decide (113∈aS o.kind)=true:=by rw [hK];decide
  have i113:=aq (aS o.kind) h0s 113
  rw [b113] at i113
  have b108:decide (108∈aS o.kind)=false:=by rw [hK];decide
  have i108:=aq (aS o.kind) h0s 108
  rw [b108] at i108
  have k0:((o.kind:Int) == 0)=false:=by simp;omega
  have k1:((o.kind:Int) != 0)=true:=by simp;omega
  refine SW.seq (SW.seq ?_)
  have cz:=And.intro v1 (And.intro v2 (And.intro v3 (And.intro v4 (And.intro vl (And.intro i99 (And.intro i97 (And.intro i118 (And.intro i116 (And.intro i113 (And.intro i108 True.intro))))))))))
  refine SW.gB [0,1,2,4,5,6,12,62,65,72,130,185] mixed (And.intro (k0) (k1)) cz ?_
  rcases g1:o.dep.bB o.aG with _ | _
  ·rw [aA hn (fun h=>by have h:Go.Sl.Form m o:=h;exact by have:=h.aG (by omega);rw [g1] at this;cases this)]
   refine RW.gE (And.intro (k0) (k1)) cz ?_
   refine SW.ah rfl (SW.seq ?_)
   refine SW.gM [0,1,2,4,5,6,12,62,65,72,130,185] mixed af cz ?_
   refine SW.ret ?_
   exact End.mk [] (h4:=⟨rfl,rfl⟩)
  refine RW.gG (And.intro (k0) (k1)) cz ?_
  rcases g2:o.dep.bB o.aK with _ | _
  ·rw [aA hn (fun h=>by have h:Go.Sl.Form m o:=h;exact by have:=h.aK (of_decide_eq_true b99);rw [g2] at this;cases this)]
   refine RW.gE (And.intro (k0) (k1)) cz ?_
   refine SW.ah rfl (SW.seq ?_)
   refine SW.gM [0,1,2,4,5,6,12,62,65,72,130,185] mixed af cz ?_
   refine SW.ret ?_
   exact End.mk [] (h4:=⟨rfl,rfl⟩)
  refine RW.gG (And.intro (k0) (k1)) cz ?_
  rcases g3:o.dep.bB o.at_ with _ | _
  ·rw [aA hn (fun h=>by have h:Go.Sl.Form m o:=h;exact by have:=h.at_ (of_decide_eq_true b97);rw [g3] at this;cases this)]
   refine RW.gE (And.intro (k0) (k1)) cz ?_
   refine SW.ah rfl (SW.seq ?_)
   refine SW.gM [0,1,2,4,5,6,12,62,65,72,130,185] mixed af cz ?_
   refine SW.ret ?_
   exact End.mk [] (h4:=⟨rfl,rfl⟩)
  refine RW.gE (And.intro (k0) (k1)) cz ?_
  refine SW.aj rfl (SW.skip ?_)
  refine SW.seq (SW.seq ?_)
  refine SW.gB [0,1,2,4,5,6,12,62,65,72,130,185] mixed af cz ?_
  rcases q0:decide ((o.r7:Int)<1) with _ | _
  rotate_left
  ·rw [aA hn (fun h=>by have h:Go.Sl.Form m o:=h;exact absurd (h.r7 (of_decide_eq_true b113)).1 (by simp at q0;omega))]
   refine RW.gE af cz ?_
   refine SW.ah rfl (SW.seq ?_)
   refine SW.gM [0,1,2,4,5,6,12,62,65,72,130,185] mixed af cz ?_
   refine SW.ret ?_
   exact End.mk [] (h4:=⟨rfl,rfl⟩)
  refine RW.gG af cz ?_
  rcases q1:decide ((o.r7:Int)>65535) with _ | _
  rotate_left
  ·rw [aA hn (fun h=>by have h:Go.Sl.Form m o:=h;exact absurd (h.r7 (of_decide_eq_true b113)).2 (by simp at q1;omega))]
   refine RW.gE af cz ?_
   refine SW.ah rfl (SW.seq ?_)
   refine SW.gM [0,1,2,4,5,6,12,62,65,72,130,185] mixed af cz ?_
   refine SW.ret ?_
   exact End.mk [] (h4:=⟨rfl,rfl⟩)
  refine RW.gG af cz ?_
  rcases p1:decide ((o.eu:Int)>16777215) with _ | _
  rotate_left
  ·rw [aA hn (fun h=>by have h:Go.Sl.Form m o:=h;exact absurd h.eu (by simp at p1;omega))]
   refine RW.gE af cz ?_
   refine SW.ah rfl (SW.seq ?_)
   refine SW.gM [0,1,2,4,5,6,12,62,65,72,130,185] mixed af cz ?_
   refine SW.ret ?_
   exact End.mk [] (h4:=⟨rfl,rfl⟩)
  refine RW.gE af cz ?_
  refine SW.aj rfl (SW.skip ?_)
  refine SW.seq ?_
  refine SW.gM [0,1,2,4,5,6,12,62,65,72,130,185] mixed af cz ?_
  refine SW.ret ?_
  have hF:Go.Sl.Form m o:=⟨by simp at b1;omega,hpos,by simp at b3;omega,by simp at b4;omega,by simp at b5;omega,by simp at b6;omega,hk8,b8,hfar,fun h=>by omega,fun _=>g1,fun _=>g2,fun _=>g3,(fun h=>by have:=decide_eq_true h;rw [b118] at this;cases this),(fun h=>by have:=decide_eq_true h;rw [b116] at this;cases this),fun _=>⟨by simp at q0;omega,by simp at q1;omega⟩,by simp at p1;omega,(fun h=>by have:=decide_eq_true h;rw [b108] at this;cases this)⟩
  have hV:gj (m:Int) o=0:=dX.2 ⟨by omega,by omega,hF⟩
  rw [hV]
  exact End.mk [] (h4:=⟨rfl,rfl⟩)
 ·have hK:aS o.kind=[99,97,118]:=by first | (rw [hkd];rfl) | (rcases hkd with h | h <;> rw [h] <;> rfl)
  have b99:decide (99∈aS o.kind)=true:=by rw [hK];decide
  have i99:=aq (aS o.kind) h0s 99
  rw [b99] at i99
  have b97:decide (97∈aS o.kind)=true:=by rw [hK];decide
  have i97:=aq (aS o.kind) h0s 97
  rw [b97] at i97
  have b118:decide (118∈aS o.kind)=true:=by rw [hK];decide
  have i118:=aq (aS o.kind) h0s 118
  rw [b118] at i118
  have b116:decide (116∈aS o.kind)=false:=by rw [hK];decide
  have i116:=aq (aS o.kind) h0s 116
  rw [b116] at i116
  have b113:decide (113∈aS o.kind)=false:=by rw [hK];decide
  have i113:=aq (aS o.kind) h0s 113
  rw [b113] at i113
  have b108:decide (108∈aS o.kind)=false:=by rw [hK];decide
  have i108:=aq (aS o.kind) h0s 108
  rw [b108] at i108
  have k0:((o.kind:Int) == 0)=false:=by simp;omega
  have k1:((o.kind:Int) != 0)=true:=by simp;omega
  refine SW.seq (SW.seq ?_)
  have cz:=And.intro v1 (And.intro v2 (And.intro v3 (And.intro v4 (And.intro vl (And.intro i99 (And.intro i97 (And.intro i118 (And.intro i116 (And.intro i113 (And.intro i108 True.intro))))))))))
  refine SW.gB [0,1,2,4,5,6,12,62,65,72,130,185] mixed (And.intro (k0) (k1)) cz ?_
  rcases g1:o.dep.bB o.aG with _ | _
  ·rw [aA hn (fun h=>by have h:Go.Sl.Form m o:=h;exact by have:=h.aG (by omega);rw [g1] at this;cases this)]
   refine RW.gE (And.intro (k0) (k1)) cz ?_
   refine SW.ah rfl (SW.seq ?_)
   refine SW.gM [0,1,2,4,5,6,12,62,65,72,130,185] mixed af cz ?_
   refine SW.ret ?_
   exact End.mk [] (h4:=⟨rfl,rfl⟩)
  refine RW.gG (And.intro (k0) (k1)) cz ?_
  rcases g2:o.dep.bB o.aK with _ | _
  ·rw [aA hn (fun h=>by have h:Go.Sl.Form m o:=h;exact by have:=h.aK (of_decide_eq_true b99);rw [g2] at this;cases this)]
   refine RW.gE (And.intro (k0) (k1)) cz ?_
   refine SW.ah rfl (SW.seq ?_)
   refine SW.gM [0,1,2,4,5,6,12,62,65,72,130,185] mixed af cz ?_
   refine SW.ret ?_
   exact End.mk [] (h4:=⟨rfl,rfl⟩)
  refine RW.gG (And.intro (k0) (k1)) cz ?_
  rcases g3:o.dep.bB o.at_ with _ | _
  ·rw [aA hn (fun h=>by have h:Go.Sl.Form m o:=h;exact by have:=h.at_ (of_decide_eq_true b97);rw [g3] at this;cases this)]
   refine RW.gE (And.intro (k0) (k1)) cz ?_
   refine SW.ah rfl (SW.seq ?_)
   refine SW.gM [0,1,2,4,5,6,12,62,65,72,130,185] mixed af cz ?_
   refine SW.ret ?_
   exact End.mk [] (h4:=⟨rfl,rfl⟩)
  refine RW.gG (And.intro (k0) (k1)) cz ?_
  rcases g4:o.dep.bB o.iK with _ | _
  ·rw [aA hn (fun h=>by have h:Go.Sl.Form m o:=h;exact by have:=h.iK (of_decide_eq_true b118);rw [g4] at this;cases this)]
   refine RW.gE (And.intro (k0) (k1)) cz ?_
   refine SW.ah rfl (SW.seq ?_)
   refine SW.gM [0,1,2,4,5,6,12,62,65,72,130,185] mixed af cz ?_
   refine SW.ret ?_
   exact End.mk [] (h4:=⟨rfl,rfl⟩)
  refine RW.gE (And.intro (k0) (k1)) cz ?_
  refine SW.aj rfl (SW.skip ?_)
  refine SW.seq (SW.seq ?_)
  refine SW.gB [0,1,2,4,5,6,12,62,65,72,130,185] mixed af cz ?_
  rcases p1:decide ((o.eu:Int)>16777215) with _ | _
  rotate_left
  ·rw [aA hn (fun h=>by have h:Go.Sl.Form m o:=h;exact absurd h.eu (by simp at p1;omega))]
   refine RW.gE af cz ?_
   refine SW.ah rfl (SW.seq ?_)
   refine SW.gM [0,1,2,4,5,6,12,62,65,72,130,185] mixed af cz ?_
   refine SW.ret ?_
   exact End.mk [] (h4:=⟨rfl,rfl⟩)
  refine RW.gE af cz ?_
  refine SW.aj rfl (SW.skip ?_)
  refine SW.seq ?_
  refine SW.gM [0,1,2,4,5,6,12,62,65,72,130,185] mixed af cz ?_
  refine SW.ret ?_
  have hF:Go.Sl.Form m o:=⟨by simp at b1;omega,hpos,by simp at b3;omega,by simp at b4;omega,by simp at b5;omega,by simp at b6;omega,hk8,b8,hfar,fun h=>by omega,fun _=>g1,fun _=>g2,fun _=>g3,fun _=>g4,(fun h=>by have:=decide_eq_true h;rw [b116] at this;cases this),(fun h=>by have:=decide_eq_true h;rw [b113] at this;cases this),by simp at p1;omega,(fun h=>by have:=decide_eq_true h;rw [b108] at this;cases this)⟩
  have hV:gj (m:Int) o=0:=dX.2 ⟨by omega,by omega,hF⟩
  rw [hV]
  exact End.mk [] (h4:=⟨rfl,rfl⟩)
 ·have hK:aS o.kind=[99,108]:=by first | (rw [hkd];rfl) | (rcases hkd with h | h <;> rw [h] <;> rfl)
  have b99:decide (99∈aS o.kind)=true:=by rw [hK];decide
  have i99:=aq (aS o.kind) h0s 99
  rw [b99] at i99
  have b97:decide (97∈aS o.kind)=false:=by rw [hK];decide
  have i97:=aq (aS o.kind) h0s 97
  rw [b97] at i97
  have b118:decide (118∈aS o.kind)=false:=by rw [hK];decide
  have i118:=aq (aS o.kind) h0s 118
  rw [b118] at i118
  have b116:decide (116∈aS o.kind)=false:=by rw [hK];decide
  have i116:=aq (aS o.kind) h0s 116
  rw [b116] at i116
  have b113:decide (113∈aS o.kind)=false:=by rw [hK];decide
  have i113:=aq (aS o.kind) h0s 113
  rw [b113] at i113
  have b108:decide (108∈aS o.kind)=true:=by rw [hK];decide
  have i108:=aq (aS o.kind) h0s 108
  rw [b108] at i108
  have k0:((o.kind:Int) == 0)=false:=by simp;omega
  have k1:((o.kind:Int) != 0)=true:=by simp;omega
  refine SW.seq (SW.seq ?_)
  have cz:=And.intro v1 (And.intro v2 (And.intro v3 (And.intro v4 (And.intro vl (And.intro i99 (And.intro i97 (And.intro i118 (And.intro i116 (And.intro i113 (And.intro i108 True.intro))))))))))
  refine SW.gB [0,1,2,4,5,6,12,62,65,72,130,185] mixed (And.intro (k0) (k1)) cz ?_
  rcases g1:o.dep.bB o.aG with _ | _
  ·rw [aA hn (fun h=>by have h:Go.Sl.Form m o:=h;exact by have:=h.aG (by omega);rw [g1] at this;cases this)]
   refine RW.gE (And.intro (k0) (k1)) cz ?_
   refine SW.ah rfl (SW.seq ?_)
   refine SW.gM [0,1,2,4,5,6,12,62,65,72,130,185] mixed af cz ?_
   refine SW.ret ?_
   exact End.mk [] (h4:=⟨rfl,rfl⟩)
  refine RW.gG (And.intro (k0) (k1)) cz ?_
  rcases g2:o.dep.bB o.aK with _ | _
  ·rw [aA hn (fun h=>by have h:Go.Sl.Form m o:=h;exact by have:=h.aK (of_decide_eq_true b99);rw [g2] at this;cases this)]
   refine RW.gE (And.intro (k0) (k1)) cz ?_
   refine SW.ah rfl (SW.seq ?_)
   refine SW.gM [0,1,2,4,5,6,12,62,65,72,130,185] mixed af cz ?_
   refine SW.ret ?_
   exact End.mk [] (h4:=⟨rfl,rfl⟩)
  refine RW.gE (And.intro (k0) (k1)) cz ?_
  refine SW.aj rfl (SW.skip ?_)
  refine SW.seq (SW.seq ?_)
  refine SW.gB [0,1,2,4,5,6,12,62,65,72,130,185] mixed af cz ?_
  rcases p1:decide ((o.eu:Int)>16777215) with _ | _
  rotate_left
  ·rw [aA hn (fun h=>by have h:Go.Sl.Form m o:=h;exact absurd h.eu (by simp at p1;omega))]
   refine RW.gE af cz ?_
   refine SW.ah rfl (SW.seq ?_)
   refine SW.gM [0,1,2,4,5,6,12,62,65,72,130,185] mixed af cz ?_
   refine SW.ret ?_
   exact End.mk [] (h4:=⟨rfl,rfl⟩)
  refine RW.gG af cz ?_
  rcases l1:iN o o.cl with _ | _
  ·rw [aA hn (fun h=>by have h:Go.Sl.Form m o:=h;exact by have:=h.lines (of_decide_eq_true b108);rw [l1] at this;cases this)]
   refine RW.gE af cz ?_
   refine SW.ah rfl (SW.seq ?_)
   refine SW.gM [0,1,2,4,5,6,12,62,65,72,130,185] mixed af cz ?_
   refine SW.ret ?_
   exact End.mk [] (h4:=⟨rfl,rfl⟩)
  refine RW.gE af cz ?_
  refine SW.aj rfl (SW.skip ?_)
  refine SW.seq ?_
  refine SW.gM [0,1,2,4,5,6,12,62,65,72,130,185] mixed af cz ?_
  refine SW.ret ?_
  have hF:Go.Sl.Form m o:=⟨by simp at b1;omega,hpos,by simp at b3;omega,by simp at b4;omega,by simp at b5;omega,by simp at b6;omega,hk8,b8,hfar,fun h=>by omega,fun _=>g1,fun _=>g2,(fun h=>by have:=decide_eq_true h;rw [b97] at this;cases this),(fun h=>by have:=decide_eq_true h;rw [b118] at this;cases this),(fun h=>by have:=decide_eq_true h;rw [b116] at this;cases this),(fun h=>by have:=decide_eq_true h;rw [b113] at this;cases this),by simp at p1;omega,fun _=>l1⟩
  have hV:gj (m:Int) o=0:=dX.2 ⟨by omega,by omega,hF⟩
  rw [hV]
  exact End.mk [] (h4:=⟨rfl,rfl⟩)
theorem Ex (o:ag)(n:Int)(hd:o.dot.wf)(hk:o.kind<256)(hl:o.ow)(k:Nat):aM Tryz.prog ref05_Check.f [.agg o.cells,.d (.int .i64 n)] [] k 0 (.d (.int .i64 (gj n o))) []:=(Ew o n hd hk hl).sc rfl k
end
section
attribute [local irreducible] SW RW aM SC ak au
theorem oh {l:List ag}{i:Nat}{x:ag}(h:l[i]? =some x):(List.map SV.d (l.flatMap ag.ds))[i*29+10]? =some (.d (.int .u64 x.time)):=by rw [B2 h (by omega)];rfl
theorem qZ {l:List ag}{i:Nat}{x:ag}(h:l[i]? =some x):List.take 8 (List.drop (i*29+2) (List.map SV.d (l.flatMap ag.ds)))=x.dep.cells:=by rw [zB h (by omega)];rfl
theorem lG {l:List ag}{i:Nat}{x:ag}(h:l[i]? =some x):(i*29+2+8≤(List.map SV.d (l.flatMap ag.ds)).length)=True:=E_ h (by omega)
theorem y9 (a b:aL):Go.Sl.Pure Tryz.prog ref04_Above.f [.agg a.cells,.agg b.cells] (bl (a.above b)):=by
 refine ref04_Above.enter (by first | rfl | simp [SV.ok,SV.ay]) (by first | rfl | simp [Hp.ok,Ob.ok,SV.ok,SV.ay,aL.ai]) (by simp) ?_
 dsimp only [ref04_Above.s,Co.M,Co.G,Co.J,Co.H,Co.N,Co.F,Co.C,Co.Z,Co.B,Co.b8,Co.aB,Co.bL,Co.i6,Co.z8,Co.bU]
 refine SW.seq ?_
 refine SW.g0 [0,1,2,3,4,5,7,16] mixed af ?_
 refine SW.seq (SW.seq ?_)
 refine SW.g0 [0,1,2,3,4,5,7,16] mixed af ?_
 refine SW.block ?_
 refine SW.gR (α:={i:Nat // i≤8∧∀ r,r<i→b.get r≤a.get r}) (fun i=>⟨[(5,i64 i.1),(2,.ptr 0 0),(3,.ptr 1 0)],[(0,.box 39 a.cells),(1,.box 39 b.cells)],2⟩) (fun i=>8 - i.1) ⟨0,by omega,by omega⟩ id af (round:= ?_)
 rintro ⟨i,hi,hs⟩
 by_cases h:i<8
 ·have h1:decide ((i:Int)<8)=true:=by simp;omega
  have e2:IntKind.i64.wrap ((i:Int)+1)=((i+1:Nat):Int):=wrap_i64 _ (by omega)
  rcases hc:decide (((a.get i:Nat):Int)<((b.get i:Nat):Int)) with _ | _
  ·(repeat (first | refine SW.seq ?_ | refine SW.block ?_ | refine SW.g0 [0,1,2,3,4,5,7,16] mixed (And.intro (h1) (And.intro (a.gQ h) (And.intro (b.gQ h) (And.intro (hc) (e2))))) ?_ | refine SW.skip ?_ | refine SW.exit ?_ | refine SW.ret ?_ | refine SW.ah rfl ?_ | refine SW.aj rfl ?_))
   dsimp only
   exact ⟨⟨i+1,by omega,fun r hr=>by
    by_cases hri:r=i
    ·subst hri;simp at hc;omega
    ·exact hs r (by omega)⟩,id,by show 8 - (i+1)<_;omega,aJ.mk af⟩
  ·(repeat (first | refine SW.seq ?_ | refine SW.block ?_ | refine SW.g0 [0,1,2,3,4,5,7,16] mixed (And.intro (h1) (And.intro (a.gQ h) (And.intro (b.gQ h) (hc)))) ?_ | refine SW.skip ?_ | refine SW.exit ?_ | refine SW.ret ?_ | refine SW.ah rfl ?_ | refine SW.aj rfl ?_))
   have:a.above b=false:=by
    cases hab:a.above b with
    | false=>rfl
    | true=>have:=aL.uQ.1 hab i h;simp at hc;omega
   exact End.mk [] (h4:=⟨by rw [this];rfl,rfl⟩)
 ·have h1:decide ((i:Int)<8)=false:=by simp;omega
  have:a.above b=true:=aL.uQ.2 fun r hr=>hs r (by omega)
  (repeat (first | refine SW.seq ?_ | refine SW.block ?_ | refine SW.g0 [0,1,2,3,4,5,7,16] mixed (h1) ?_ | refine SW.skip ?_ | refine SW.exit ?_ | refine SW.ret ?_ | refine SW.ah rfl ?_ | refine SW.aj rfl ?_))
  exact End.mk [] (h4:=⟨by rw [this];rfl,rfl⟩)
theorem t_ (a b:aL)(k:Nat):aM Tryz.prog ref04_Above.f [.agg a.cells,.agg b.cells] [] k 0 (bl (a.above b)) []:=(y9 a b).sc rfl k
open Classical in
noncomputable def wK (l:List ag)(o:ag):Bool:=decide (rC l o)
open Classical in
theorem oo {l:List ag}{o:ag}(h: ¬ rC l o):wK l o=false:=decide_eq_false h
open Classical in
theorem qg {l:List ag}{o:ag}:wK l o=true↔rC l o:=decide_eq_true_iff
set_option maxHeartbeats 4000000 in
theorem IA (l:List ag)(hl:l.length≤9223372036854775807)(o:ag)(hd:o.dot.wf):Go.Sl.Pure Tryz.prog ref10_one.f [ops l,.agg o.cells] (bl (wK l o)):=by
  have hd2:o.dot.n<4294967296:=hd.2
  refine ref10_one.enter (by first | rfl | simp [SV.ok,SV.ay]) (by first | rfl | simp [Hp.ok,Ob.ok,SV.ok,SV.ay,aL.ai]) (by simp) ?_
  dsimp only [ref10_one.s,Co.M,Co.G,Co.J,Co.H,Co.N,Co.F,Co.C,Co.Z,Co.B,Co.b8,Co.aB,Co.bL,Co.i6,Co.z8,Co.bU]
  refine SW.seq ?_
  refine SW.g0 [0,1,3,4,5,6,30,32,51,55,84] mixed af ?_
  have t1:=qf l hl o.dot
  have t2:∀ k,aM Tryz.prog ref10_there.f [ops l,.agg [u8 o.dot.r,u32 (o.dot.n - 1)]] [] k 0 (.d (.int .i64 ((fK l ⟨o.dot.r,o.dot.n - 1⟩:Nat):Int))) []:=qf l hl ⟨o.dot.r,o.dot.n - 1⟩
  have cz:=And.intro t1 (And.intro t2 True.intro)
  refine SW.seq (SW.seq ?_)
  refine SW.gB [0,1,3,4,5,6,30,32,51,55,84] mixed af cz ?_
  rcases a1:(((fK l o.dot:Nat):Int) != 1) with _ | _
  rotate_left
  · rw [oo fun h=>by have:=h.self;simp at a1;omega]
    refine RW.gE af cz ?_
    refine SW.ah rfl (SW.seq ?_)
    refine SW.g2 [0,1,3,4,5,6,30,32,51,55,84] mixed af t1 t2 ?_
    refine SW.ret ?_
    exact End.mk [] (h4:=⟨rfl,rfl⟩)
  refine RW.gG af cz ?_
  have hself:fK l o.dot=1:=by simp at a1;omega
  rcases a2:decide ((o.dot.n:Int)>1) with _ | _
  · have hprev:1<o.dot.n→fK l ⟨o.dot.r,o.dot.n - 1⟩=1:=fun h=>by simp at a2;omega
    refine RW.gE af cz ?_
    refine SW.aj rfl (SW.skip ?_)
    refine SW.seq (SW.seq ?_)
    refine SW.g2 [0,1,3,4,5,6,30,32,51,55,84] mixed af t1 t2 ?_
    refine SW.block ?_
    refine SW.gR (α:={i:Nat // i≤8∧∀ r,r<i→0<o.dep.get r→fK l ⟨r,o.dep.get r⟩=1}) (fun i=>⟨[(5,i64 i.1),(3,.ptr 0 0),(0,ops l)],[(0,.box 43 o.cells)],1⟩) (fun i=>8 - i.1) ⟨0,by omega,by omega⟩ id af (round:= ?_)
    rintro ⟨i,hi,hs⟩
    by_cases h:i<8
    · have h1:decide ((i:Int)<8)=true:=by simp;omega
      have e2:IntKind.i64.wrap ((i:Int)+1)=((i+1:Nat):Int):=wrap_i64 _ (by omega)
      have e4:IntKind.u8.wrap (i:Int)=(i:Int):=wrap_u8' _ (by omega)
      have t3:∀ k,aM Tryz.prog ref10_there.f [ops l,.agg [u8 i,u32 (o.dep.get i)]] [] k 0 (.d (.int .i64 ((fK l ⟨i,o.dep.get i⟩:Nat):Int))) []:=qf l hl ⟨i,o.dep.get i⟩
      have cz:=And.intro t3 True.intro
      refine SW.seq (SW.seq ?_)
      refine SW.g1 [0,1,3,4,5,6,30,32,51,55,84] mixed (h1) t3 ?_
      refine SW.ah rfl (SW.skip ?_)
      refine SW.seq (SW.block (SW.seq ?_))
      rcases c1:decide ((o.dep.get i:Int)>0) with _ | _
      · refine SW.g1 [0,1,3,4,5,6,30,32,51,55,84] mixed (And.intro (jb o h) (And.intro (c1) (e4))) t3 ?_
        refine SW.aj rfl (SW.skip ?_)
        refine SW.g1 [0,1,3,4,5,6,30,32,51,55,84] mixed (e2) t3 ?_
        dsimp only
        exact ⟨⟨i+1,by omega,fun r hr hp=>by
          by_cases hri:r=i
          · subst hri;simp at c1;omega
          · exact hs r (by omega) hp⟩,id,by show 8 - (i+1)<_;omega,aJ.mk af⟩
      · rcases c2:(((fK l ⟨i,o.dep.get i⟩:Nat):Int) != 1) with _ | _
        · refine SW.g1 [0,1,3,4,5,6,30,32,51,55,84] mixed (And.intro (jb o h) (And.intro (c1) (And.intro (c2) (e4)))) t3 ?_
          refine SW.aj rfl (SW.skip ?_)
          refine SW.g1 [0,1,3,4,5,6,30,32,51,55,84] mixed (e2) t3 ?_
          dsimp only
          exact ⟨⟨i+1,by omega,fun r hr hp=>by
            by_cases hri:r=i
            · subst hri;simp at c2;omega
            · exact hs r (by omega) hp⟩,id,by show 8 - (i+1)<_;omega,aJ.mk af⟩
        · rw [oo fun h'=>by have:=h'.deps i h (by simp at c1;omega);simp at c2;omega]
          refine SW.g1 [0,1,3,4,5,6,30,32,51,55,84] mixed (And.intro (jb o h) (And.intro (c1) (And.intro (c2) (e4)))) t3 ?_
          refine SW.ah rfl (SW.seq ?_)
          refine SW.g1 [0,1,3,4,5,6,30,32,51,55,84] mixed af t3 ?_
          refine SW.ret ?_
          exact End.mk [] (h4:=⟨rfl,rfl⟩)
    have h1:decide ((i:Int)<8)=false:=by simp;omega
    have hdeps:∀ r,r<8→0<o.dep.get r→fK l ⟨r,o.dep.get r⟩=1:=fun r h1 h2=>hs r (by omega) h2
    refine SW.seq (SW.seq ?_)
    refine SW.g0 [0,1,3,4,5,6,30,32,51,55,84] mixed (h1) ?_
    refine SW.aj rfl (SW.exit ?_)
    refine SW.seq (SW.seq ?_)
    refine SW.g0 [0,1,3,4,5,6,30,32,51,55,84] mixed af ?_
    refine SW.block ?_
    refine SW.gR (α:={i:Nat // i≤l.length∧∀ j x,j<i→l[j]? =some x→x.before o=true→x.time<o.time∧o.dep.above x.dep=true}) (fun i=>⟨[(6,i64 i.1),(3,.ptr 0 0),(0,ops l)],[(0,.box 43 o.cells)],1⟩) (fun i=>l.length - i.1) ⟨0,by omega,by omega⟩ id af (round:= ?_)
    rintro ⟨i,hi,hs⟩
    by_cases h:i<l.length
    · have h1:decide ((i:Int)<l.length)=true:=by simp;exact h
      have e2:IntKind.i64.wrap ((i:Int)+1)=((i+1:Nat):Int):=wrap_i64 _ (by omega)
      obtain ⟨x,hx⟩:=br h
      have rb:=oQ x o
      have ra:=t_ o.dep x.dep
      refine SW.seq (SW.seq ?_)
      refine SW.g0 [0,1,3,4,5,6,30,32,51,55,84] mixed (h1) ?_
      refine SW.ah rfl (SW.skip ?_)
      refine SW.seq (SW.block (SW.seq ?_))
      have good:((x.before o=true→x.time<o.time∧o.dep.above x.dep=true))→∀ j y,j<i+1→l[j]? =some y→y.before o=true→y.time<o.time∧o.dep.above y.dep=true:=fun hg j y hj hy=>by
        by_cases hji:j=i
        · subst hji;rw [hx] at hy;injection hy with hy;subst hy;exact hg
        · exact hs j y (by omega) hy
      have bad: ¬ (x.before o=true→x.time<o.time∧o.dep.above x.dep=true)→wK l o=false:=fun hb=>oo fun h'=>hb (h'.r9 x (List.mem_of_getElem? hx))
      rcases g1:x.before o with _ | _ <;> rw [g1] at rb
      · 
        have cz:=And.intro rb True.intro
        refine SW.g1 [0,1,3,4,5,6,30,32,51,55,84] mixed (And.intro (eZ hx) (bT hx)) rb ?_
        refine SW.aj rfl (SW.skip ?_)
        refine SW.g1 [0,1,3,4,5,6,30,32,51,55,84] mixed (e2) rb ?_
        dsimp only
        exact ⟨⟨i+1,by omega,good (fun h=>by rw [g1] at h;cases h)⟩,id,by show l.length - (i+1)<_;omega,aJ.mk af⟩
      rcases g2:decide ((x.time:Int)≥o.time) with _ | _
      rotate_left
      · rw [bad fun h'=>by have:=(h' g1).1;simp at g2;omega]
        refine SW.g1 [0,1,3,4,5,6,30,32,51,55,84] mixed (And.intro (eZ hx) (And.intro (bT hx) (And.intro (oh hx) (And.intro (qZ hx) (And.intro (lG hx) (g2)))))) rb ?_
        refine SW.ah rfl (SW.seq ?_)
        refine SW.g1 [0,1,3,4,5,6,30,32,51,55,84] mixed af rb ?_
        refine SW.ret ?_
        exact End.mk [] (h4:=⟨rfl,rfl⟩)
      rcases g3:o.dep.above x.dep with _ | _ <;> rw [g3] at ra
      · rw [bad fun h'=>by have:=(h' g1).2;rw [g3] at this;cases this]
        have cz:=And.intro rb (And.intro ra True.intro)
        refine SW.g2 [0,1,3,4,5,6,30,32,51,55,84] mixed (And.intro (eZ hx) (And.intro (bT hx) (And.intro (oh hx) (And.intro (qZ hx) (And.intro (lG hx) (g2)))))) rb ra ?_
        refine SW.ah rfl (SW.seq ?_)
        refine SW.g2 [0,1,3,4,5,6,30,32,51,55,84] mixed af rb ra ?_
        refine SW.ret ?_
        exact End.mk [] (h4:=⟨rfl,rfl⟩)
      · refine SW.g2 [0,1,3,4,5,6,30,32,51,55,84] mixed (And.intro (eZ hx) (And.intro (bT hx) (And.intro (oh hx) (And.intro (qZ hx) (And.intro (lG hx) (g2)))))) rb ra ?_
        refine SW.aj rfl (SW.skip ?_)
        refine SW.g2 [0,1,3,4,5,6,30,32,51,55,84] mixed (e2) rb ra ?_
        dsimp only
        exact ⟨⟨i+1,by omega,good (fun _=>⟨by simp at g2;omega,g3⟩)⟩,id,by show l.length - (i+1)<_;omega,aJ.mk af⟩
    have h1:decide ((i:Int)<l.length)=false:=by simp;omega
    have hone:wK l o=true:=qg.2 ⟨hself,hprev,hdeps,fun a ha hb=>by
      obtain ⟨j,hj⟩:=List.mem_iff_getElem?.1 ha
      exact hs j a (by have:=bu hj;omega) hj hb⟩
    rw [hone]
    (repeat (first | refine SW.seq ?_ | refine SW.block ?_ | refine SW.g0 [0,1,3,4,5,6,30,32,51,55,84] mixed (h1) ?_ | refine SW.skip ?_ | refine SW.exit ?_ | refine SW.ret ?_ | refine SW.ah rfl ?_ | refine SW.aj rfl ?_))
    exact End.mk [] (h4:=⟨rfl,rfl⟩)
  · have e3 :IntKind.u32.wrap ((o.dot.n:Int) - 1)=((o.dot.n - 1:Nat):Int):=by simp at a2;rw [wrap_u32' _ (by omega)];omega
    have cz:=And.intro t1 (And.intro t2 True.intro)
    refine RW.gG (e3) cz ?_
    rcases a3:(((fK l ⟨o.dot.r,o.dot.n - 1⟩:Nat):Int) != 1) with _ | _
    rotate_left
    · rw [oo fun h=>by have:=h.prev (by simp at a2;omega);simp at a3;omega]
      refine RW.gE af cz ?_
      refine SW.ah rfl (SW.seq ?_)
      refine SW.g2 [0,1,3,4,5,6,30,32,51,55,84] mixed af t1 t2 ?_
      refine SW.ret ?_
      exact End.mk [] (h4:=⟨rfl,rfl⟩)
    have hprev:1<o.dot.n→fK l ⟨o.dot.r,o.dot.n - 1⟩=1:=fun h=>by simp at a3;omega
    refine RW.gE af cz ?_
    refine SW.aj rfl (SW.skip ?_)
    refine SW.seq (SW.seq ?_)
    refine SW.g2 [0,1,3,4,5,6,30,32,51,55,84] mixed af t1 t2 ?_
    refine SW.block ?_
    refine SW.gR (α:={i:Nat // i≤8∧∀ r,r<i→0<o.dep.get r→fK l ⟨r,o.dep.get r⟩=1}) (fun i=>⟨[(5,i64 i.1),(3,.ptr 0 0),(0,ops l)],[(0,.box 43 o.cells)],1⟩) (fun i=>8 - i.1) ⟨0,by omega,by omega⟩ id af (round:= ?_)
    rintro ⟨i,hi,hs⟩
    by_cases h:i<8
    · have h1:decide ((i:Int)<8)=true:=by simp;omega
      have e2:IntKind.i64.wrap ((i:Int)+1)=((i+1:Nat):Int):=wrap_i64 _ (by omega)
      have e4:IntKind.u8.wrap (i:Int)=(i:Int):=wrap_u8' _ (by omega)
      have t3:∀ k,aM Tryz.prog ref10_there.f [ops l,.agg [u8 i,u32 (o.dep.get i)]] [] k 0 (.d (.int .i64 ((fK l ⟨i,o.dep.get i⟩:Nat):Int))) []:=qf l hl ⟨i,o.dep.get i⟩
      have cz:=And.intro t3 True.intro
      refine SW.seq (SW.seq ?_)
      refine SW.g1 [0,1,3,4,5,6,30,32,51,55,84] mixed (h1) t3 ?_
      refine SW.ah rfl (SW.skip ?_)
      refine SW.seq (SW.block (SW.seq ?_))
      rcases c1:decide ((o.dep.get i:Int)>0) with _ | _
      · refine SW.g1 [0,1,3,4,5,6,30,32,51,55,84] mixed (And.intro (jb o h) (And.intro (c1) (e4))) t3 ?_
        refine SW.aj rfl (SW.skip ?_)
        refine SW.g1 [0,1,3,4,5,6,30,32,51,55,84] mixed (e2) t3 ?_
        dsimp only
        exact ⟨⟨i+1,by omega,fun r hr hp=>by
          by_cases hri:r=i
          · subst hri;simp at c1;omega
          · exact hs r (by omega) hp⟩,id,by show 8 - (i+1)<_;omega,aJ.mk af⟩
      · rcases c2:(((fK l ⟨i,o.dep.get i⟩:Nat):Int) != 1) with _ | _
        · refine SW.g1 [0,1,3,4,5,6,30,32,51,55,84] mixed (And.intro (jb o h) (And.intro (c1) (And.intro (c2) (e4)))) t3 ?_
          refine SW.aj rfl (SW.skip ?_)
          refine SW.g1 [0,1,3,4,5,6,30,32,51,55,84] mixed (e2) t3 ?_
          dsimp only
          exact ⟨⟨i+1,by omega,fun r hr hp=>by
            by_cases hri:r=i
            · subst hri;simp at c2;omega
            · exact hs r (by omega) hp⟩,id,by show 8 - (i+1)<_;omega,aJ.mk af⟩
        · rw [oo fun h'=>by have:=h'.deps i h (by simp at c1;omega);simp at c2;omega]
          refine SW.g1 [0,1,3,4,5,6,30,32,51,55,84] mixed (And.intro (jb o h) (And.intro (c1) (And.intro (c2) (e4)))) t3 ?_
          refine SW.ah rfl (SW.seq ?_)
          refine SW.g1 [0,1,3,4,5,6,30,32,51,55,84] mixed af t3 ?_
          refine SW.ret ?_
          exact End.mk [] (h4:=⟨rfl,rfl⟩)
    have h1:decide ((i:Int)<8)=false:=by simp;omega
    have hdeps:∀ r,r<8→0<o.dep.get r→fK l ⟨r,o.dep.get r⟩=1:=fun r h1 h2=>hs r (by omega) h2
    refine SW.seq (SW.seq ?_)
    refine SW.g0 [0,1,3,4,5,6,30,32,51,55,84] mixed (h1) ?_
    refine SW.aj rfl (SW.exit ?_)
    refine SW.seq (SW.seq ?_)
    refine SW.g0 [0,1,3,4,5,6,30,32,51,55,84] mixed af ?_
    refine SW.block ?_
    refine SW.gR (α:={i:Nat // i≤l.length∧∀ j x,j<i→l[j]? =some x→x.before o=true→x.time<o.time∧o.dep.above x.dep=true}) (fun i=>⟨[(6,i64 i.1),(3,.ptr 0 0),(0,ops l)],[(0,.box 43 o.cells)],1⟩) (fun i=>l.length - i.1) ⟨0,by omega,by omega⟩ id af (round:= ?_)
    rintro ⟨i,hi,hs⟩
    by_cases h:i<l.length
    · have h1:decide ((i:Int)<l.length)=true:=by simp;exact h
      have e2:IntKind.i64.wrap ((i:Int)+1)=((i+1:Nat):Int):=wrap_i64 _ (by omega)
      obtain ⟨x,hx⟩:=br h
      have rb:=oQ x o
      have ra:=t_ o.dep x.dep
      refine SW.seq (SW.seq ?_)
      refine SW.g0 [0,1,3,4,5,6,30,32,51,55,84] mixed (h1) ?_
      refine SW.ah rfl (SW.skip ?_)
      refine SW.seq (SW.block (SW.seq ?_))
      have good:((x.before o=true→x.time<o.time∧o.dep.above x.dep=true))→∀ j y,j<i+1→l[j]? =some y→y.before o=true→y.time<o.time∧o.dep.above y.dep=true:=fun hg j y hj hy=>by
        by_cases hji:j=i
        · subst hji;rw [hx] at hy;injection hy with hy;subst hy;exact hg
        · exact hs j y (by omega) hy
      have bad: ¬ (x.before o=true→x.time<o.time∧o.dep.above x.dep=true)→wK l o=false:=fun hb=>oo fun h'=>hb (h'.r9 x (List.mem_of_getElem? hx))
      rcases g1:x.before o with _ | _ <;> rw [g1] at rb
      · 
        have cz:=And.intro rb True.intro
        refine SW.g1 [0,1,3,4,5,6,30,32,51,55,84] mixed (And.intro (eZ hx) (bT hx)) rb ?_
        refine SW.aj rfl (SW.skip ?_)
        refine SW.g1 [0,1,3,4,5,6,30,32,51,55,84] mixed (e2) rb ?_
        dsimp only
        exact ⟨⟨i+1,by omega,good (fun h=>by rw [g1] at h;cases h)⟩,id,by show l.length - (i+1)<_;omega,aJ.mk af⟩
      rcases g2:decide ((x.time:Int)≥o.time) with _ | _
      rotate_left
      · rw [bad fun h'=>by have:=(h' g1).1;simp at g2;omega]
        refine SW.g1 [0,1,3,4,5,6,30,32,51,55,84] mixed (And.intro (eZ hx) (And.intro (bT hx) (And.intro (oh hx) (And.intro (qZ hx) (And.intro (lG hx) (g2)))))) rb ?_
        refine SW.ah rfl (SW.seq ?_)
        refine SW.g1 [0,1,3,4,5,6,30,32,51,55,84] mixed af rb ?_
        refine SW.ret ?_
        exact End.mk [] (h4:=⟨rfl,rfl⟩)
      rcases g3:o.dep.above x.dep with _ | _ <;> rw [g3] at ra
      · rw [bad fun h'=>by have:=(h' g1).2;rw [g3] at this;cases this]
        have cz:=And.intro rb (And.intro ra True.intro)
        refine SW.g2 [0,1,3,4,5,6,30,32,51,55,84] mixed (And.intro (eZ hx) (And.intro (bT hx) (And.intro (oh hx) (And.intro (qZ hx) (And.intro (lG hx) (g2)))))) rb ra ?_
        refine SW.ah rfl (SW.seq ?_)
        refine SW.g2 [0,1,3,4,5,6,30,32,51,55,84] mixed af rb ra ?_
        refine SW.ret ?_
        exact End.mk [] (h4:=⟨rfl,rfl⟩)
      · refine SW.g2 [0,1,3,4,5,6,30,32,51,55,84] mixed (And.intro (eZ hx) (And.intro (bT hx) (And.intro (oh hx) (And.intro (qZ hx) (And.intro (lG hx) (g2)))))) rb ra ?_
        refine SW.aj rfl (SW.skip ?_)
        refine SW.g2 [0,1,3,4,5,6,30,32,51,55,84] mixed (e2) rb ra ?_
        dsimp only
        exact ⟨⟨i+1,by omega,good (fun _=>⟨by simp at g2;omega,g3⟩)⟩,id,by show l.length - (i+1)<_;omega,aJ.mk af⟩
    have h1:decide ((i:Int)<l.length)=false:=by simp;omega
    have hone:wK l o=true:=qg.2 ⟨hself,hprev,hdeps,fun a ha hb=>by
      obtain ⟨j,hj⟩:=List.mem_iff_getElem?.1 ha
      exact hs j a (by have:=bu hj;omega) hj hb⟩
    rw [hone]
    (repeat (first | refine SW.seq ?_ | refine SW.block ?_ | refine SW.g0 [0,1,3,4,5,6,30,32,51,55,84] mixed (h1) ?_ | refine SW.skip ?_ | refine SW.exit ?_ | refine SW.ret ?_ | refine SW.ah rfl ?_ | refine SW.aj rfl ?_))
    exact End.mk [] (h4:=⟨rfl,rfl⟩)
theorem s9 (l:List ag)(hl:l.length≤9223372036854775807)(o:ag)(hd:o.dot.wf)(k:Nat):aM Tryz.prog ref10_one.f [ops l,.agg o.cells] [] k 0 (bl (wK l o)) []:=(IA l hl o hd).sc rfl k
end
section
attribute [local irreducible] SW RW aM SC ak au
theorem vC {n:Int}{l:List ag}(h:n<1∨8<n):mz n l=2:=by unfold mz;rw [if_pos h]
theorem y_ {n:Int}{l:List ag}(h: ¬ (n<1∨8<n))(hf: ¬ ∀ o,o∈l→Go.Sl.Form n.toNat o):mz n l=5:=by unfold mz;rw [if_neg h,if_neg hf]
theorem za {n:Int}{l:List ag}(h: ¬ (n<1∨8<n))(hf:∀ o,o∈l→Go.Sl.Form n.toNat o)(ho: ¬ ∀ o,o∈l→rC l o):mz n l=9:=by unfold mz;rw [if_neg h,if_pos hf,if_neg ho]
set_option maxHeartbeats 4000000 in
theorem zb (l:List ag)(hl:l.length≤9223372036854775807)(n:Int)(hd:∀ o,o∈l→o.dot.wf∧o.kind<256∧o.ow):Go.Sl.Pure Tryz.prog ref10_History.f [ops l,.d (.int .i64 n)] (.d (.int .i64 (mz n l))):=by
 refine ref10_History.enter (by first | rfl | simp [SV.ok,SV.ay]) (by first | rfl | simp [Hp.ok,Ob.ok,SV.ok,SV.ay,aL.ai]) (by simp) ?_
 dsimp only [ref10_History.s,Co.M,Co.G,Co.J,Co.H,Co.N,Co.F,Co.C,Co.Z,Co.B,Co.b8,Co.aB,Co.bL,Co.i6,Co.z8,Co.bU]
 refine SW.seq ?_
 refine SW.g0 [0,1,4,5,6,12,16,25,29,38] mixed af ?_
 refine SW.seq (SW.seq ?_)
 refine SW.gB [0,1,4,5,6,12,16,25,29,38] mixed af True.intro ?_
 rcases a1:decide (n<1) with _ | _
 rotate_left
 ·rw [vC (.inl (by simpa using a1))]
  refine RW.gE af True.intro ?_
  refine SW.ah rfl (SW.seq ?_)
  refine SW.g0 [0,1,4,5,6,12,16,25,29,38] mixed af ?_
  refine SW.ret ?_
  exact End.mk [] (h4:=⟨rfl,rfl⟩)
 refine RW.gG af True.intro ?_
 rcases a2:decide (n>8) with _ | _
 rotate_left
 ·rw [vC (.inr (by simpa using a2))]
  refine RW.gE af True.intro ?_
  refine SW.ah rfl (SW.seq ?_)
  refine SW.g0 [0,1,4,5,6,12,16,25,29,38] mixed af ?_
  refine SW.ret ?_
  exact End.mk [] (h4:=⟨rfl,rfl⟩)
 refine RW.gE af True.intro ?_
 refine SW.aj rfl (SW.skip ?_)
 have hn: ¬ (n<1∨8<n):=by simp at a1 a2;omega
 refine SW.seq (SW.seq ?_)
 refine SW.g0 [0,1,4,5,6,12,16,25,29,38] mixed af ?_
 refine SW.block ?_
 refine SW.gR (α:={i:Nat // i≤l.length∧∀ j x,j<i→l[j]? =some x→Go.Sl.Form n.toNat x}) (fun i=>⟨[(5,i64 i.1),(0,ops l),(1,.d (.int .i64 n))],[],0⟩) (fun i=>l.length - i.1) ⟨0,by omega,by omega⟩ id af (round:= ?_)
 rintro ⟨i,hi,hs⟩
 by_cases h:i<l.length
 ·have h1:decide ((i:Int)<l.length)=true:=by simp;exact h
  have e2:IntKind.i64.wrap ((i:Int)+1)=((i+1:Nat):Int):=wrap_i64 _ (by omega)
  obtain ⟨x,hx⟩:=br h
  have hdx:=hd x (List.mem_of_getElem? hx)
  have ck:=Ex x n hdx.1 hdx.2.1 hdx.2.2
  refine SW.seq (SW.seq ?_)
  refine SW.g0 [0,1,4,5,6,12,16,25,29,38] mixed (h1) ?_
  refine SW.ah rfl (SW.skip ?_)
  refine SW.seq (SW.block (SW.seq ?_))
  rcases c1:(gj n x != 0) with _ | _
  ·have hF:Go.Sl.Form n.toNat x:=(dX.1 (by simpa using c1)).2.2
   have cz:=And.intro ck True.intro
   refine SW.g1 [0,1,4,5,6,12,16,25,29,38] mixed (And.intro (eZ hx) (And.intro (bT hx) (c1))) ck ?_
   refine SW.aj rfl (SW.skip ?_)
   refine SW.g1 [0,1,4,5,6,12,16,25,29,38] mixed (e2) ck ?_
   dsimp only
   exact ⟨⟨i+1,by omega,fun j y hj hy=>by
    by_cases hji:j=i
    ·subst hji;rw [hx] at hy;injection hy with hy;subst hy;exact hF
    ·exact hs j y (by omega) hy⟩,id,by show l.length - (i+1)<_;omega,aJ.mk af⟩
  ·rw [y_ hn fun hf=>by
    have:=dX.2 ⟨by omega,by omega,hf x (List.mem_of_getElem? hx)⟩
    rw [this] at c1;simp at c1]
   refine SW.g1 [0,1,4,5,6,12,16,25,29,38] mixed (And.intro (eZ hx) (And.intro (bT hx) (c1))) ck ?_
   refine SW.ah rfl (SW.seq ?_)
   refine SW.g1 [0,1,4,5,6,12,16,25,29,38] mixed af ck ?_
   refine SW.ret ?_
   exact End.mk [] (h4:=⟨rfl,rfl⟩)
 have h1:decide ((i:Int)<l.length)=false:=by simp;omega
 have hf:∀ o,o∈l→Go.Sl.Form n.toNat o:=fun o ho=>by
  obtain ⟨j,hj⟩:=List.mem_iff_getElem?.1 ho
  exact hs j o (by have:=bu hj;omega) hj
 refine SW.seq (SW.seq ?_)
 refine SW.g0 [0,1,4,5,6,12,16,25,29,38] mixed (h1) ?_
 refine SW.aj rfl (SW.exit ?_)
 refine SW.seq (SW.seq ?_)
 refine SW.g0 [0,1,4,5,6,12,16,25,29,38] mixed af ?_
 refine SW.block ?_
 refine SW.gR (α:={i:Nat // i≤l.length∧∀ j x,j<i→l[j]? =some x→rC l x}) (fun i=>⟨[(6,i64 i.1),(0,ops l)],[],0⟩) (fun i=>l.length - i.1) ⟨0,by omega,by omega⟩ id af (round:= ?_)
 clear hs hi h h1
 rintro ⟨i,hi,hs⟩
 by_cases h:i<l.length
 ·have h1:decide ((i:Int)<l.length)=true:=by simp;exact h
  have e2:IntKind.i64.wrap ((i:Int)+1)=((i+1:Nat):Int):=wrap_i64 _ (by omega)
  obtain ⟨x,hx⟩:=br h
  have hdx:=hd x (List.mem_of_getElem? hx)
  have ck:=s9 l hl x hdx.1
  refine SW.seq (SW.seq ?_)
  refine SW.g0 [0,1,4,5,6,12,16,25,29,38] mixed (h1) ?_
  refine SW.ah rfl (SW.skip ?_)
  refine SW.seq (SW.block (SW.seq ?_))
  rcases c1:wK l x with _ | _ <;> rw [c1] at ck
  ·rw [za hn hf fun ho=>by
    have:=qg.2 (ho x (List.mem_of_getElem? hx))
    rw [c1] at this;cases this]
   have cz:=And.intro ck True.intro
   refine SW.g1 [0,1,4,5,6,12,16,25,29,38] mixed (And.intro (eZ hx) (bT hx)) ck ?_
   refine SW.ah rfl (SW.seq ?_)
   refine SW.g1 [0,1,4,5,6,12,16,25,29,38] mixed af ck ?_
   refine SW.ret ?_
   exact End.mk [] (h4:=⟨rfl,rfl⟩)
  ·refine SW.g1 [0,1,4,5,6,12,16,25,29,38] mixed (And.intro (eZ hx) (bT hx)) ck ?_
   refine SW.aj rfl (SW.skip ?_)
   refine SW.g1 [0,1,4,5,6,12,16,25,29,38] mixed (e2) ck ?_
   dsimp only
   exact ⟨⟨i+1,by omega,fun j y hj hy=>by
    by_cases hji:j=i
    ·subst hji;rw [hx] at hy;injection hy with hy;subst hy;exact qg.1 c1
    ·exact hs j y (by omega) hy⟩,id,by show l.length - (i+1)<_;omega,aJ.mk af⟩
 have h1:decide ((i:Int)<l.length)=false:=by simp;omega
 have hV:mz n l=0:=tg.2 ⟨by omega,by omega,hf,fun o ho=>by
  obtain ⟨j,hj⟩:=List.mem_iff_getElem?.1 ho
  exact hs j o (by have:=bu hj;omega) hj⟩
 rw [hV]
 (repeat (first | refine SW.seq ?_ | refine SW.block ?_ | refine SW.g0 [0,1,4,5,6,12,16,25,29,38] mixed (h1) ?_ | refine SW.skip ?_ | refine SW.exit ?_ | refine SW.ret ?_ | refine SW.ah rfl ?_ | refine SW.aj rfl ?_))
 exact End.mk [] (h4:=⟨rfl,rfl⟩)
theorem zc (l:List ag)(hl:l.length≤9223372036854775807)(n:Int)(hd:∀ o,o∈l→o.dot.wf∧o.kind<256∧o.ow)(k:Nat):aM Tryz.prog ref10_History.f [ops l,.d (.int .i64 n)] [] k 0 (.d (.int .i64 (mz n l))) []:=(zb l hl n hd).sc rfl k
end
section
attribute [local irreducible] SW RW aM SC ak au
theorem Bm {a b:ag}(h:a.time<b.time):tc a b= -1:=by
 unfold tc
 rw [if_pos (ag.lt_iff.2 (.inl h))]
theorem ze {a b:ag}(h:b.time<a.time):tc a b=1:=by
 unfold tc
 rw [if_neg (by rw [ag.lt_iff];omega),if_pos (ag.lt_iff.2 (.inl h))]
theorem Ey {a b:ag}(h:a.time=b.time):tc a b=Ci a.dot b.dot:=by
 have l1:(a.lt b=true)↔(a.dot.r<b.dot.r∨a.dot.r=b.dot.r∧a.dot.n<b.dot.n):=by rw [ag.lt_iff];omega
 have l2:(b.lt a=true)↔(b.dot.r<a.dot.r∨b.dot.r=a.dot.r∧b.dot.n<a.dot.n):=by rw [ag.lt_iff];omega
 unfold tc
 simp only [l1,l2]
 unfold Ci fM
 repeat' split
 all_goals omega
theorem Ez (a b:ag)(ha:a.dot.wf)(hb:b.dot.wf):Go.Sl.Pure Tryz.prog ref10_Compare.f [.agg a.cells,.agg b.cells] (.d (.int .i64 (tc a b))):=by
 have hc:=xF a.dot b.dot ha hb
 refine ref10_Compare.enter (by first | rfl | simp [SV.ok,SV.ay]) (by first | rfl | simp [Hp.ok,Ob.ok,SV.ok,SV.ay,aL.ai]) (by simp) ?_
 dsimp only [ref10_Compare.s,Co.M,Co.G,Co.J,Co.H,Co.N,Co.F,Co.C,Co.Z,Co.B,Co.b8,Co.aB,Co.bL,Co.i6,Co.z8,Co.bU]
 refine SW.seq ?_
 refine SW.g0 [0,1,2,3,4,9,14] mixed af ?_
 refine SW.seq (SW.seq ?_)
 rcases h1:decide ((a.time:Int)<b.time) with _ | _
 rotate_left
 ·rw [Bm (by simpa using h1)]
  (repeat (first | refine SW.seq ?_ | refine SW.block ?_ | refine SW.g0 [0,1,2,3,4,9,14] mixed (h1) ?_ | refine SW.skip ?_ | refine SW.exit ?_ | refine SW.ret ?_ | refine SW.ah rfl ?_ | refine SW.aj rfl ?_))
  exact End.mk [] (h4:=⟨rfl,rfl⟩)
 refine SW.g0 [0,1,2,3,4,9,14] mixed (h1) ?_
 refine SW.aj rfl (SW.skip ?_)
 refine SW.seq (SW.seq ?_)
 rcases h2:decide ((a.time:Int)>b.time) with _ | _
 rotate_left
 ·rw [ze (by simpa using h2)]
  (repeat (first | refine SW.seq ?_ | refine SW.block ?_ | refine SW.g0 [0,1,2,3,4,9,14] mixed (h2) ?_ | refine SW.skip ?_ | refine SW.exit ?_ | refine SW.ret ?_ | refine SW.ah rfl ?_ | refine SW.aj rfl ?_))
  exact End.mk [] (h4:=⟨rfl,rfl⟩)
 rw [Ey (by simp at h1 h2;omega)]
 refine SW.g0 [0,1,2,3,4,9,14] mixed (h2) ?_
 refine SW.aj rfl (SW.skip ?_)
 refine SW.seq ?_
 refine SW.g1 [0,1,2,3,4,9,14] mixed af hc ?_
 refine SW.ret ?_
 exact End.mk [] (h4:=⟨rfl,rfl⟩)
theorem EA (a b:ag)(ha:a.dot.wf)(hb:b.dot.wf)(k:Nat):aM Tryz.prog ref10_Compare.f [.agg a.cells,.agg b.cells] [] k 0 (.d (.int .i64 (tc a b))) []:=(Ez a b ha hb).sc rfl k
theorem q_:∀ (l:List ag) (i:Nat),(l.flatMap ag.ds).drop (i*29)=(l.drop i).flatMap ag.ds
 | [],i=>by simp
 | x::l,0=>by simp
 | x::l,i+1=>by
  have:=q_ l i
  rw [List.drop_succ_cons,← this,List.flatMap_cons,List.drop_append]
  rw [show (i+1)*29 - x.ds.length=i*29 by rw [show x.ds.length=29 from rfl];omega,List.drop_of_length_le (by rw [show x.ds.length=29 from rfl];omega)]
  rfl
theorem ri (l:List ag)(i:Nat):(l.flatMap ag.ds).take (i*29)=(l.take i).flatMap ag.ds:=by
 have h1:=List.take_append_drop (i*29) (l.flatMap ag.ds)
 rw [q_] at h1
 have h2:(l.take i).flatMap ag.ds++(l.drop i).flatMap ag.ds=l.flatMap ag.ds:=by rw [← List.flatMap_append,List.take_append_drop]
 rw [← h2] at h1 ⊢
 exact List.append_cancel_right h1
theorem vD (l:List ag)(k:Nat):((l.flatMap ag.ds).drop (k*29)).take ((l.length - k)*29)=(l.drop k).flatMap ag.ds:=by
 rw [q_,List.take_of_length_le]
 rw [dw ag.ds 29 (fun _=>rfl)];simp
theorem Bn:aT []=[]:=by simp [aT,mO,nT]
theorem zf (t:List ag)(ht:(aT t).length<4611686018427387904)(d:Dt)(k:Nat):aM Tryz.prog ref10_Find.f [ops (aT t),.agg d.cells] [] k 0 (.dM [.agg ((aD t d).getD ag.zero).cells,bl (aD t d).isSome]) []:=by
 have:=vZ (aT t) ht d k
 rwa [rB] at this
theorem Kk {P:Program}{env:List (Nat×SV)}{hp:Hp}{k d p:Nat}{r:List SI}{K:St→List (Bool×List Nat)→Prop}{a:ag}{z:List SV}(hz:z=AB)
  (ha:env.lookup p=some (.agg a.cells))
  (h:RW P r ⟨(d,ops [a])::env,hp,k⟩ fun st' ts=>K st' ((false,[])::ts)):RW P (⟨some d,.oU 43 29 1 z [(0,29,.t p)],none⟩::r) ⟨env,hp,k⟩ K:=by
 subst hz
 refine RW.cons (e:=⟨ops [a],[],[],0,((29=29∧0+29≤29∧True))⟩) (fun de=>⟨.iB::de,fJ (.inl rfl) ?_⟩) (by show 29=29∧0+29≤29∧True;decide) ?_
 ·have h1:wQ (fun t=>env.lookup t) [(0,29,X.t p)]=some [(0,29,.agg a.cells)]:=by
   simp only [wQ,ev,ha]
  have h2:mD AB [(0,29,.agg a.cells)]=some (a.cells,((29=29∧0+29≤29∧True))):=rfl
  have h3:eH a.cells=some ([a].flatMap ag.ds):=rfl
  have h4:a.cells.all SV.dG=true:=rfl
  simp only [eV,cZ,h1,h2,h3,h4,if_true,Bool.false_or]
  rfl
 ·exact h
set_option maxHeartbeats 4000000 in
theorem Bo (l :List ag)(hl:l.length<1000000)(hw:∀ o,o∈l→o.dot.wf):Go.Sl.Pure Tryz.prog ref10_Sort.f [ops l] (ops (aT l)):=by
  refine ref10_Sort.enter (by first | rfl | simp [SV.ok,SV.ay]) (by first | rfl | simp [Hp.ok,Ob.ok,SV.ok,SV.ay,aL.ai]) (by simp) ?_
  dsimp only [ref10_Sort.s,Co.M,Co.G,Co.J,Co.H,Co.N,Co.F,Co.C,Co.Z,Co.B,Co.b8,Co.aB,Co.bL,Co.i6,Co.z8,Co.bU]
  refine SW.seq ?_
  refine SW.g0 [0,2,3,4,6,7,11,24,41] mixed af ?_
  refine SW.seq ?_
  refine SW.g0 [0,2,3,4,6,7,11,24,41] mixed af ?_
  refine SW.aU 3 rfl ?_
  refine SW.seq (SW.seq ?_)
  refine SW.g0 [0,2,3,4,6,7,11,24,41] mixed af ?_
  refine SW.block ?_
  refine SW.gR (α:={i:Nat // i≤l.length}) (fun i=>⟨[(4,i64 i.1),(0,ops l),(3,ops (aT (l.take i.1)))],[],0⟩) (fun i=>l.length - i.1) ⟨0,by omega⟩ id (And.intro Bn af) (round:= ?_)
  rintro ⟨i,hi⟩
  have fQ:(aT (l.take i)).length≤i:=Nat.le_trans (vh _) (by rw [List.length_take];omega)
  dsimp only
  by_cases h:i<l.length
  · obtain ⟨x,hx⟩:=br h
    have hwx:x.dot.wf:=hw x (List.mem_of_getElem? hx)
    have h1:decide ((i:Int)<l.length)=true:=by simp;exact h
    have e1:l.take (i+1)=l.take i++[x]:=f_ hx
    have e2:IntKind.i64.wrap ((i:Int)+1)=((i+1:Nat):Int):=wrap_i64 _ (by omega)
    have hfd:=zf (l.take i) (by omega) x.dot
    refine SW.seq (SW.seq ?_)
    refine SW.g0 [0,2,3,4,6,7,11,24,41] mixed (h1) ?_
    refine SW.ah rfl (SW.skip ?_)
    refine SW.seq (SW.block (SW.seq ?_))
    cases hf:aD (l.take i) x.dot with
    | some y=>
      rw [hf] at hfd
      have hfd':∀ k,aM Tryz.prog ref10_Find.f [ops (aT (l.take i)),.agg x.dot.cells] [] k 0 (.dM [.agg y.cells,.d (.bool true)]) []:=hfd
      have hs:=yx (t:=l.take i) (x:=x) (by rw [hf];rfl)
      rw [← e1] at hs
      refine SW.g1 [0,2,3,4,6,7,11,24,41] mixed (And.intro (gA hx) (fO hx)) hfd' ?_
      refine SW.seq (SW.seq ?_)
      refine SW.g1 [0,2,3,4,6,7,11,24,41] mixed af hfd' ?_
      refine SW.ah rfl (SW.exit ?_)
      refine SW.g1 [0,2,3,4,6,7,11,24,41] mixed (e2) hfd' ?_
      dsimp only
      exact ⟨⟨i+1,by omega⟩,id,by show l.length - (i+1)<_;omega,aJ.mk (And.intro hs af)⟩
    | none=>
      rw [hf] at hfd
      have hfd':∀ k,aM Tryz.prog ref10_Find.f [ops (aT (l.take i)),.agg x.dot.cells] [] k 0 (.dM [.agg ag.zero.cells,.d (.bool false)]) []:=hfd
      have hwt:∀ y,y∈aT (l.take i)→y.dot.wf:=fun y hy=>by
        have:=AK.1 hy
        exact hw y (List.mem_of_mem_take (cT this).1)
      have hput:∀ k,k≤(aT (l.take i)).length→(∀ j y,k≤j→(aT (l.take i))[j]? =some y→x.lt y=true)→(∀ y,0<k→(aT (l.take i))[k - 1]? =some y→x.lt y=false)→aT (l.take (i+1))=(aT (l.take i)).take k++x::(aT (l.take i)).drop k:=fun k hk h1 h2=>by
        rw [e1];exact AL hf (fun j y hj hk=>h1 j y hk hj) h2 hk
      refine SW.g1 [0,2,3,4,6,7,11,24,41] mixed (And.intro (gA hx) (fO hx)) hfd' ?_
      generalize aT (l.take i)=s at fQ hwt hput ⊢
      refine SW.seq (SW.seq ?_)
      refine SW.g0 [0,2,3,4,6,7,11,24,41] mixed af ?_
      refine SW.aj rfl (SW.skip ?_)
      refine SW.seq ?_
      refine SW.g0 [0,2,3,4,6,7,11,24,41] mixed af ?_
      refine SW.seq (SW.block ?_)
      refine SW.gR (α:={k:Nat // k≤s.length∧∀ j y,k≤j→s[j]? =some y→x.lt y=true}) (fun k=>⟨[(7,i64 k.1),(4,i64 i),(0,ops l),(3,ops s)],[],0⟩) (fun k=>k.1) ⟨s.length,Nat.le_refl _,fun j y hj hy=>by have:=bu hy;omega⟩ id af (round:= ?_)
      rintro ⟨k,hk,hs⟩
      have e0:(k:Int).toNat=k:=Int.toNat_natCast k
      by_cases h0:0<k
      · obtain ⟨y,hy⟩:=br (show k - 1<s.length by omega)
        have k1:decide ((k:Int)>0)=true:=by simp;omega
        have k2:IntKind.i64.wrap ((k:Int) - 1)=((k - 1:Nat):Int):=by rw [wrap_i64 _ (by omega)];omega
        have hc:=EA y x (hwt y (List.mem_of_getElem? hy)) hwx
        refine SW.seq (SW.seq ?_)
        rcases hlt:decide (tc y x>0) with _ | _
        · have hp:=hput k hk hs (fun z _ hz=>by
            rw [hy] at hz;injection hz with hz;subst hz
            rw [Bool.eq_false_iff];intro hh
            have:=zI.2 hh
            simp at hlt;omega)
          refine SW.g1 [0,2,3,4,6,7,11,24,41] mixed (And.intro (k1) (And.intro (k2) (And.intro (eZ hy) (And.intro (bT hy) (And.intro (eZ hx) (And.intro (bT hx) (hlt))))))) hc ?_
          refine SW.aj rfl (SW.exit ?_)
          (have fx:=(And.intro (e0) (And.intro (eZ hx) (And.intro (bT hx) (Nat.sub_zero))));refine SW.dL [0,2,3,4,6,7,11,24,41] mixed ?_;(repeat (first | refine RW.ro fx (h:= ?_) | refine RW.skip (h:= ?_) | refine RW.op fx (h:= ?_) | refine RW.eF fx (h:= ?_) | refine RW.bH (h:= ?_) | refine Kk rfl rfl (h:= ?_)));refine RW.nil ⟨by kernel_rfl,au.mk (h:= ?_)⟩)
          have hln:(aT (l.take (i+1))).length=k+ [x].length+(s.length - k):=by rw [hp];simp;omega
          refine SW.freeze 3 ((aT (l.take (i+1))).flatMap ag.ds) rfl (by rw [hp,ri,vD];simp) ?_
          simp only [kQ,SV.iB,List.map_cons,List.map_nil,if_true,if_false,reduceIte,di,Nat.reduceEqDiff,← hln]
          refine SW.g0 [0,2,3,4,6,7,11,24,41] mixed (e2) ?_
          dsimp only
          exact ⟨⟨i+1,by omega⟩,id,by show l.length - (i+1)<_;omega,aJ.mk af⟩
        · 
          refine SW.g1 [0,2,3,4,6,7,11,24,41] mixed (And.intro (k1) (And.intro (k2) (And.intro (eZ hy) (And.intro (bT hy) (And.intro (eZ hx) (And.intro (bT hx) (hlt))))))) hc ?_
          refine SW.ah rfl (SW.skip ?_)
          refine SW.block ?_
          refine SW.g0 [0,2,3,4,6,7,11,24,41] mixed (k2) ?_
          dsimp only
          exact ⟨⟨k - 1,by omega,fun j z hj hz=>by
            by_cases hjk:j=k - 1
            · subst hjk
              rw [hy] at hz;injection hz with hz;subst hz
              exact zI.1 (by simpa using hlt)
            · exact hs j z (by omega) hz⟩,id,by show k - 1<k;omega,aJ.mk af⟩
      · have k1:decide ((k:Int)>0)=false:=by simp;omega
        have hp:=hput k hk hs (fun z hz _=>by omega)
        refine SW.seq (SW.seq ?_)
        refine SW.g0 [0,2,3,4,6,7,11,24,41] mixed (k1) ?_
        refine SW.aj rfl (SW.exit ?_)
        (have fx:=(And.intro (e0) (And.intro (eZ hx) (And.intro (bT hx) (Nat.sub_zero))));refine SW.dL [0,2,3,4,6,7,11,24,41] mixed ?_;(repeat (first | refine RW.ro fx (h:= ?_) | refine RW.skip (h:= ?_) | refine RW.op fx (h:= ?_) | refine RW.eF fx (h:= ?_) | refine RW.bH (h:= ?_) | refine Kk rfl rfl (h:= ?_)));refine RW.nil ⟨by kernel_rfl,au.mk (h:= ?_)⟩)
        have hln:(aT (l.take (i+1))).length=k+ [x].length+(s.length - k):=by rw [hp];simp;omega
        refine SW.freeze 3 ((aT (l.take (i+1))).flatMap ag.ds) rfl (by rw [hp,ri,vD];simp) ?_
        simp only [kQ,SV.iB,List.map_cons,List.map_nil,if_true,if_false,reduceIte,di,Nat.reduceEqDiff,← hln]
        refine SW.g0 [0,2,3,4,6,7,11,24,41] mixed (e2) ?_
        dsimp only
        exact ⟨⟨i+1,by omega⟩,id,by show l.length - (i+1)<_;omega,aJ.mk af⟩
  · have h1:decide ((i:Int)<l.length)=false:=by simp;omega
    have h2:i=l.length:=by omega
    subst h2
    rw [List.take_length]
    (repeat (first | refine SW.seq ?_ | refine SW.block ?_ | refine SW.g0 [0,2,3,4,6,7,11,24,41] mixed (h1) ?_ | refine SW.skip ?_ | refine SW.exit ?_ | refine SW.ret ?_ | refine SW.ah rfl ?_ | refine SW.aj rfl ?_))
    exact End.mk [] (h4:=⟨rfl,rfl⟩)
theorem Bp (l:List ag)(hl:l.length<1000000)(hw:∀ o,o∈l→o.dot.wf)(k:Nat):aM Tryz.prog ref10_Sort.f [ops l] [] k 0 (ops (aT l)) []:=(Bo l hl hw).sc rfl k
end
end Go.Proofs.YtaelhkkjgfobhaaGreat
