/-
 Operations' forms: the document's check.
-/
import Derived.Test.YtaelhkkjgfobhaaGreatVA
set_option linter.unusedSectionVars false
set_option linter.unusedVariables false
set_option linter.unusedSimpArgs false
namespace Go.Proofs.YtaelhkkjgfobhaaGreat
open Go.Sl Go.Proofs
attribute [local irreducible] SW RW aJ SC ai an
theorem aC {n:Int}{o:ag}(h1: ¬ (n<1\/8<n))(h: ¬ Go.Sl.Form n.toNat o):iu n o=5:=by unfold iu;rw [if_neg h1,if_neg h]
theorem vK {n:Int}{o:ag}(h1:n<1\/8<n):iu n o=2:=by unfold iu;rw [if_pos h1]
theorem DL (o:ag)(hk:o.kind<=8)(hl:o.mW)(k:Nat):aJ Tryz.prog ref05_zero.f [.agg o.cells] [] k 0 (bl (zeroV (aY o.kind) o o.cl.length)) []:=by
 have h:o.kind=0\/o.kind=1\/o.kind=2\/o.kind=3\/o.kind=4\/o.kind=5\/o.kind=6\/o.kind=7\/o.kind=8:=by omega
 have hk':o.kind<256:=by omega
 rcases h with h | h | h | h | h | h | h | h | h
 .have e:aY o.kind=[]:=by rw [h];rfl
  rw [e];exact (LL o _ _ hl.eq hk' e).sc rfl k
 .have e:aY o.kind=[99,116,114,100,112]:=by rw [h];rfl
  rw [e];exact (LM o _ _ hl.eq hk' e).sc rfl k
 .have e:aY o.kind=[99,97]:=by rw [h];rfl
  rw [e];exact (G5 o _ _ hl.eq hk' e).sc rfl k
 .have e:aY o.kind=[99,105,113,101]:=by rw [h];rfl
  rw [e];exact (LN o _ _ hl.eq hk' e).sc rfl k
 .have e:aY o.kind=[99,97,113]:=by rw [h];rfl
  rw [e];exact (LO o _ _ hl.eq hk' e).sc rfl k
 .have e:aY o.kind=[99,97]:=by rw [h];rfl
  rw [e];exact (G5 o _ _ hl.eq hk' e).sc rfl k
 .have e:aY o.kind=[99,97,118]:=by rw [h];rfl
  rw [e];exact (G6 o _ _ hl.eq hk' e).sc rfl k
 .have e:aY o.kind=[99,97,118]:=by rw [h];rfl
  rw [e];exact (G6 o _ _ hl.eq hk' e).sc rfl k
 .have e:aY o.kind=[99,108]:=by rw [h];rfl
  rw [e];exact (LP o _ _ hl.eq hk' e).sc rfl k
set_option maxHeartbeats 16000000 in
theorem G7 (o:ag)(n:Int)(hd:o.dot.wf)(hk:o.kind<256)(hl:o.mW):Go.Sl.Pure Tryz.prog ref05_Check.f [.agg o.cells,.d (.int .i64 n)] (.d (.int .i64 (iu n o))):=by
 refine ref05_Check.enter (by first | rfl | simp [SV.ok,SV.ay]) (by first | rfl | simp [Hp.ok,Ob.ok,SV.ok,SV.ay,aD.aq]) (by simp) ?_;dsimp only [ref05_Check.s,Co.M,Co.G,Co.J,Co.H,Co.F,Co.C,Co.Z,Co.B,Co.b8,Co.aB,Co.bN,Co.T,Co.P,Co.x,Co.Y,Co.V,Co.U,Co.D,Co.S];refine SW.seq (SW.g0 [0,1,2,4,5,6,12,62,65,72,130,185] Zm af ?_);refine SW.seq (SW.seq (SW.gB [0,1,2,4,5,6,12,62,65,72,130,185] Zm af True.intro ?_));rcases a1:decide (n<1) with _ | _
 rotate_left
 .rw [vK (.inl (by simpa using a1))]
  refine RW.gE af True.intro ?_;refine SW.aj rfl (SW.seq (SW.g0 [0,1,2,4,5,6,12,62,65,72,130,185] Zm af ?_));refine SW.ret ?_;exact End.mk [] (h4:=⟨rfl,rfl⟩)
 refine RW.gG af True.intro ?_;rcases a2:decide (n>8) with _ | _
 rotate_left
 .rw [vK (.inr (by simpa using a2))]
  refine RW.gE af True.intro ?_;refine SW.aj rfl (SW.seq (SW.g0 [0,1,2,4,5,6,12,62,65,72,130,185] Zm af ?_));refine SW.ret ?_;exact End.mk [] (h4:=⟨rfl,rfl⟩)
 refine RW.gE af True.intro ?_;refine SW.au rfl (SW.skip ?_);have hn: ¬ (n<1\/8<n):=by simp at a1 a2;omega
 obtain ⟨m,rfl⟩:=Int.eq_ofNat_of_zero_le (show 0<=n by omega);have hm:m<=8:=by omega
 have hd2:o.dot.n<4294967296:=hd.2;have e0:IntKind.i64.wrap (o.dot.r:Int)=o.dot.r:=wrap_i64 _ (by have:=hd.1;omega);refine SW.seq (SW.seq (SW.gB [0,1,2,4,5,6,12,62,65,72,130,185] Zm e0 True.intro ?_));rcases b1:decide ((o.dot.r:Int)>=(m:Int)) with _ | _
 rotate_left
 .rw [aC hn (λ h=>by have h:Go.Sl.Form m o:=h;exact absurd h.r (by simp at b1;omega))]
  refine RW.gE af True.intro ?_;refine SW.aj rfl (SW.seq (SW.g0 [0,1,2,4,5,6,12,62,65,72,130,185] Zm af ?_));refine SW.ret ?_;exact End.mk [] (h4:=⟨rfl,rfl⟩)
 refine RW.gG af True.intro ?_;rcases b2:((o.dot.n:Int) == 0) with _ | _
 rotate_left
 .rw [aC hn (λ h=>by have h:Go.Sl.Form m o:=h;exact absurd h.pos (by simp at b2;omega))]
  refine RW.gE af True.intro ?_;refine SW.aj rfl (SW.seq (SW.g0 [0,1,2,4,5,6,12,62,65,72,130,185] Zm af ?_));refine SW.ret ?_;exact End.mk [] (h4:=⟨rfl,rfl⟩)
 have hr8:o.dot.r<8:=by simp at b1;omega
 have hpos:0<o.dot.n:=by simp at b2;omega
 have e3:IntKind.u32.wrap ((o.dot.n:Int) - 1)=((o.dot.n - 1:Nat):Int):=by rw [wrap_u32' _ (by omega)];omega
 refine RW.gG (Zq e3 (jN o hr8)) True.intro ?_;rcases b3:((o.dep.get o.dot.r:Int) != ((o.dot.n - 1:Nat):Int)) with _ | _
 rotate_left
 .rw [aC hn (λ h=>by have h:Go.Sl.Form m o:=h;exact absurd h.own (by simp at b3;omega))]
  refine RW.gE af True.intro ?_;refine SW.aj rfl (SW.seq (SW.g0 [0,1,2,4,5,6,12,62,65,72,130,185] Zm af ?_));refine SW.ret ?_;exact End.mk [] (h4:=⟨rfl,rfl⟩)
 refine RW.gG af True.intro ?_;rcases b4:decide ((o.time:Int)<1) with _ | _
 rotate_left
 .rw [aC hn (λ h=>by have h:Go.Sl.Form m o:=h;exact absurd h.t1 (by simp at b4;omega))]
  refine RW.gE af True.intro ?_;refine SW.aj rfl (SW.seq (SW.g0 [0,1,2,4,5,6,12,62,65,72,130,185] Zm af ?_));refine SW.ret ?_;exact End.mk [] (h4:=⟨rfl,rfl⟩)
 refine RW.gG af True.intro ?_;rcases b5:decide ((o.time:Int)>281474976710656) with _ | _
 rotate_left
 .rw [aC hn (λ h=>by have h:Go.Sl.Form m o:=h;exact absurd h.t2 (by simp at b5;omega))]
  refine RW.gE af True.intro ?_;refine SW.aj rfl (SW.seq (SW.g0 [0,1,2,4,5,6,12,62,65,72,130,185] Zm af ?_));refine SW.ret ?_;exact End.mk [] (h4:=⟨rfl,rfl⟩)
 refine RW.gG af True.intro ?_;rcases b6:((o.who:Int) == 0) with _ | _
 rotate_left
 .rw [aC hn (λ h=>by have h:Go.Sl.Form m o:=h;exact absurd h.who (by simp at b6;omega))]
  refine RW.gE af True.intro ?_;refine SW.aj rfl (SW.seq (SW.g0 [0,1,2,4,5,6,12,62,65,72,130,185] Zm af ?_));refine SW.ret ?_;exact End.mk [] (h4:=⟨rfl,rfl⟩)
 refine RW.gG af True.intro ?_;rcases b7:decide ((o.kind:Int)>8) with _ | _
 rotate_left
 .rw [aC hn (λ h=>by have h:Go.Sl.Form m o:=h;exact absurd h.kind (by simp at b7;omega))]
  refine RW.gE af True.intro ?_;refine SW.aj rfl (SW.seq (SW.g0 [0,1,2,4,5,6,12,62,65,72,130,185] Zm af ?_));refine SW.ret ?_;exact End.mk [] (h4:=⟨rfl,rfl⟩)
 have hk8:o.kind<=8:=by simp at b7;omega
 have hz:=DL o hk8 hl;have cz:=Zq hz True.intro;refine RW.gG af cz ?_;rcases b8:zeroV (aY o.kind) o o.cl.length with _ | _
 .rw [aC hn (λ h=>by have h:Go.Sl.Form m o:=h;exact by have:=h.zero;rw [b8] at this;cases this)]
  refine RW.gE af cz ?_;refine SW.aj rfl (SW.seq (SW.g1 [0,1,2,4,5,6,12,62,65,72,130,185] Zm af hz ?_));refine SW.ret ?_;exact End.mk [] (h4:=⟨rfl,rfl⟩)
 refine RW.gE af cz ?_;refine SW.au rfl (SW.skip ?_);have h0s:(aY o.kind).length<4611686018427387904:=by
  have:o.kind=0\/o.kind=1\/o.kind=2\/o.kind=3\/o.kind=4\/o.kind=5\/o.kind=6\/o.kind=7\/o.kind=8:=by omega
  rcases this with h | h | h | h | h | h | h | h | h <;> rw [h] <;> decide
 refine SW.seq (SW.seq (SW.g1 [0,1,2,4,5,6,12,62,65,72,130,185] Zm af hz ?_));refine SW.block (SW.jU (α:={i:Nat // m<=i/\i<=8/\∀ r,m<=r->r<i->o.dep.get r=0}) (λ i=>⟨[(5,i64 i.1),(2,.ptr 0 0)],[(0,.box 43 o.cells)],1⟩) (λ i=>8 - i.1) ⟨m,Nat.le_refl _,hm,λ r h1 h2=>by omega⟩ id af (round:= ?_));rintro ⟨i,hmi,hi,hs⟩
 by_cases h:i<8
 .have h1:decide ((i:Int)<8)=true:=by simp;omega
  have e2:IntKind.i64.wrap ((i:Int)+1)=((i+1:Nat):Int):=wrap_i64 _ (by omega);refine SW.seq (SW.seq (SW.g1 [0,1,2,4,5,6,12,62,65,72,130,185] Zm h1 hz ?_));refine SW.aj rfl (SW.skip (SW.seq (SW.block (SW.seq ?_))));rcases c1:((o.dep.get i:Int) != 0) with _ | _
  .refine SW.g1 [0,1,2,4,5,6,12,62,65,72,130,185] Zm (Zq (jN o h) (c1)) hz ?_
   refine SW.au rfl (SW.skip ?_);refine SW.g1 [0,1,2,4,5,6,12,62,65,72,130,185] Zm e2 hz ?_;dsimp only;exact ⟨⟨i+1,by omega,by omega,λ r h1 h2=>by
    by_cases hri:r=i
    .subst hri;simp at c1;omega
    .exact hs r h1 (by omega)⟩,id,by show 8 - (i+1)<_;omega,aI.mk af⟩
  .rw [aC hn (λ h'=>by have h':Go.Sl.Form m o:=h';exact absurd (h'.JA i hmi h) (by simp at c1;omega))]
   refine SW.g1 [0,1,2,4,5,6,12,62,65,72,130,185] Zm (Zq (jN o h) (c1)) hz ?_;refine SW.aj rfl (SW.seq (SW.g1 [0,1,2,4,5,6,12,62,65,72,130,185] Zm af hz ?_));refine SW.ret ?_;exact End.mk [] (h4:=⟨rfl,rfl⟩)
 have h1:decide ((i:Int)<8)=false:=by simp;omega
 have hfar:∀ r,m<=r->r<8->o.dep.get r=0:=λ r h1 h2=>hs r h1 (by omega)
 refine SW.seq (SW.seq (SW.g1 [0,1,2,4,5,6,12,62,65,72,130,185] Zm h1 hz ?_));refine SW.au rfl (SW.exit ?_);have hh:=j3 o.kind hk;refine SW.seq ?_;have cz:=Zq hh True.intro;refine SW.g1 [0,1,2,4,5,6,12,62,65,72,130,185] Zm af hh ?_;have v1:=nu o o.aK;have v2:=nu o o.aM;have v3:=nu o o.at_;have v4:=nu o o.jD;have vl:=Br o o.cl hl.le hl.eq;have hkk:o.kind=0\/o.kind=1\/(o.kind=2\/o.kind=5)\/o.kind=3\/o.kind=4\/(o.kind=6\/o.kind=7)\/o.kind=8:=by omega
 rcases hkk with hkd | hkd | hkd | hkd | hkd | hkd | hkd
 .have hK:aY o.kind=[]:=by first | (rw [hkd];rfl) | (rcases hkd with h | h <;> rw [h] <;> rfl)
  have b99:decide (99∈aY o.kind)=false:=by rw [hK];decide
  have i99:=av (aY o.kind) h0s 99;rw [b99] at i99;have b97:decide (97∈aY o.kind)=false:=by rw [hK];decide
  have i97:=av (aY o.kind) h0s 97;rw [b97] at i97;have b118:decide (118∈aY o.kind)=false:=by rw [hK];decide
  have i118:=av (aY o.kind) h0s 118;rw [b118] at i118;have b116:decide (116∈aY o.kind)=false:=by rw [hK];decide
  have i116:=av (aY o.kind) h0s 116;rw [b116] at i116;have b113:decide (113∈aY o.kind)=false:=by rw [hK];decide
  have i113:=av (aY o.kind) h0s 113;rw [b113] at i113;have b108:decide (108∈aY o.kind)=false:=by rw [hK];decide
  have i108:=av (aY o.kind) h0s 108;rw [b108] at i108;have k0:((o.kind:Int) == 0)=true:=by rw [hkd];rfl
  have k1:((o.kind:Int) != 0)=false:=by rw [hkd];rfl
  refine SW.seq (SW.seq ?_);have cz:=Zq v1 (Zq v2 (Zq v3 (Zq v4 (Zq vl (Zq i99 (Zq i97 (Zq i118 (Zq i116 (Zq i113 (Zq i108 True.intro))))))))));refine SW.gB [0,1,2,4,5,6,12,62,65,72,130,185] Zm (Zq k0 k1) cz ?_;rcases g1:decide (o.aK=o.dot) with _ | _
  .rw [aC hn (λ h=>by have h:Go.Sl.Form m o:=h;exact by have:=h.gen hkd;simp at g1;exact g1 this)]
   refine RW.gE (Zq k0 k1) cz ?_;refine SW.aj rfl (SW.seq (SW.gM [0,1,2,4,5,6,12,62,65,72,130,185] Zm af cz ?_));refine SW.ret ?_;exact End.mk [] (h4:=⟨rfl,rfl⟩)
  refine RW.gE (Zq k0 k1) cz ?_;refine SW.au rfl (SW.skip (SW.seq (SW.seq (SW.gB [0,1,2,4,5,6,12,62,65,72,130,185] Zm af cz ?_))));rcases p1:decide ((o.fz:Int)>16777215) with _ | _
  rotate_left
  .rw [aC hn (λ h=>by have h:Go.Sl.Form m o:=h;exact absurd h.fz (by simp at p1;omega))]
   refine RW.gE af cz ?_;refine SW.aj rfl (SW.seq (SW.gM [0,1,2,4,5,6,12,62,65,72,130,185] Zm af cz ?_));refine SW.ret ?_;exact End.mk [] (h4:=⟨rfl,rfl⟩)
  refine RW.gE af cz ?_;refine SW.au rfl (SW.skip (SW.seq (SW.gM [0,1,2,4,5,6,12,62,65,72,130,185] Zm af cz ?_)));refine SW.ret ?_;have hF:Go.Sl.Form m o:=⟨by simp at b1;omega,hpos,by simp at b3;omega,by simp at b4;omega,by simp at b5;omega,by simp at b6;omega,hk8,b8,hfar,λ _=>of_decide_eq_true g1,λ h=>absurd hkd h,(λ h=>by have:=decide_eq_true h;rw [b99] at this;cases this),(λ h=>by have:=decide_eq_true h;rw [b97] at this;cases this),(λ h=>by have:=decide_eq_true h;rw [b118] at this;cases this),(λ h=>by have:=decide_eq_true h;rw [b116] at this;cases this),(λ h=>by have:=decide_eq_true h;rw [b113] at this;cases this),by simp at p1;omega,(λ h=>by have:=decide_eq_true h;rw [b108] at this;cases this)⟩;have hV:iu (m:Int) o=0:=eY.2 ⟨by omega,by omega,hF⟩;rw [hV];exact End.mk [] (h4:=⟨rfl,rfl⟩)
 .have hK:aY o.kind=[99,116,114,100,112]:=by first | (rw [hkd];rfl) | (rcases hkd with h | h <;> rw [h] <;> rfl)
  have b99:decide (99∈aY o.kind)=true:=by rw [hK];decide
  have i99:=av (aY o.kind) h0s 99;rw [b99] at i99;have b97:decide (97∈aY o.kind)=false:=by rw [hK];decide
  have i97:=av (aY o.kind) h0s 97;rw [b97] at i97;have b118:decide (118∈aY o.kind)=false:=by rw [hK];decide
  have i118:=av (aY o.kind) h0s 118;rw [b118] at i118;have b116:decide (116∈aY o.kind)=true:=by rw [hK];decide
  have i116:=av (aY o.kind) h0s 116;rw [b116] at i116;have b113:decide (113∈aY o.kind)=false:=by rw [hK];decide
  have i113:=av (aY o.kind) h0s 113;rw [b113] at i113;have b108:decide (108∈aY o.kind)=false:=by rw [hK];decide
  have i108:=av (aY o.kind) h0s 108;rw [b108] at i108;have k0:((o.kind:Int) == 0)=false:=by simp;omega
  have k1:((o.kind:Int) != 0)=true:=by simp;omega
  refine SW.seq (SW.seq ?_);have cz:=Zq v1 (Zq v2 (Zq v3 (Zq v4 (Zq vl (Zq i99 (Zq i97 (Zq i118 (Zq i116 (Zq i113 (Zq i108 True.intro))))))))));refine SW.gB [0,1,2,4,5,6,12,62,65,72,130,185] Zm (Zq k0 k1) cz ?_;rcases g1:o.dep.aF o.aK with _ | _
  .rw [aC hn (λ h=>by have h:Go.Sl.Form m o:=h;exact by have:=h.aK (by omega);rw [g1] at this;cases this)]
   refine RW.gE (Zq k0 k1) cz ?_;refine SW.aj rfl (SW.seq (SW.gM [0,1,2,4,5,6,12,62,65,72,130,185] Zm af cz ?_));refine SW.ret ?_;exact End.mk [] (h4:=⟨rfl,rfl⟩)
  refine RW.gG (Zq k0 k1) cz ?_;rcases g2:o.dep.aF o.aM with _ | _
  .rw [aC hn (λ h=>by have h:Go.Sl.Form m o:=h;exact by have:=h.aM (of_decide_eq_true b99);rw [g2] at this;cases this)]
   refine RW.gE (Zq k0 k1) cz ?_;refine SW.aj rfl (SW.seq (SW.gM [0,1,2,4,5,6,12,62,65,72,130,185] Zm af cz ?_));refine SW.ret ?_;exact End.mk [] (h4:=⟨rfl,rfl⟩)
  refine RW.gE (Zq k0 k1) cz ?_;refine SW.au rfl (SW.skip (SW.seq (SW.seq (SW.gB [0,1,2,4,5,6,12,62,65,72,130,185] Zm af cz ?_))));rcases t0:((o.to:Int) == 0) with _ | _
  rotate_left
  .rw [aC hn (λ h=>by have h:Go.Sl.Form m o:=h;exact absurd (h.zw (of_decide_eq_true b116)).1 (by simp at t0;omega))]
   refine RW.gE af cz ?_;refine SW.aj rfl (SW.seq (SW.gM [0,1,2,4,5,6,12,62,65,72,130,185] Zm af cz ?_));refine SW.ret ?_;exact End.mk [] (h4:=⟨rfl,rfl⟩)
  refine RW.gG af cz ?_;rcases t1:decide ((o.bp:Int)<1) with _ | _
  rotate_left
  .rw [aC hn (λ h=>by have h:Go.Sl.Form m o:=h;exact absurd (h.zw (of_decide_eq_true b116)).2.1 (by simp at t1;omega))]
   refine RW.gE af cz ?_;refine SW.aj rfl (SW.seq (SW.gM [0,1,2,4,5,6,12,62,65,72,130,185] Zm af cz ?_));refine SW.ret ?_;exact End.mk [] (h4:=⟨rfl,rfl⟩)
  refine RW.gG af cz ?_;rcases t2:decide ((o.bp:Int)>7) with _ | _
  rotate_left
  .rw [aC hn (λ h=>by have h:Go.Sl.Form m o:=h;exact absurd (h.zw (of_decide_eq_true b116)).2.2.1 (by simp at t2;omega))]
   refine RW.gE af cz ?_;refine SW.aj rfl (SW.seq (SW.gM [0,1,2,4,5,6,12,62,65,72,130,185] Zm af cz ?_));refine SW.ret ?_;exact End.mk [] (h4:=⟨rfl,rfl⟩)
  refine RW.gG af cz ?_;rcases t3:decide ((o.depth:Int)>7) with _ | _
  rotate_left
  .rw [aC hn (λ h=>by have h:Go.Sl.Form m o:=h;exact absurd (h.zw (of_decide_eq_true b116)).2.2.2.1 (by simp at t3;omega))]
   refine RW.gE af cz ?_;refine SW.aj rfl (SW.seq (SW.gM [0,1,2,4,5,6,12,62,65,72,130,185] Zm af cz ?_));refine SW.ret ?_;exact End.mk [] (h4:=⟨rfl,rfl⟩)
  refine RW.gG af cz ?_;rcases t4:decide ((o.cap:Int)>1099511627776) with _ | _
  rotate_left
  .rw [aC hn (λ h=>by have h:Go.Sl.Form m o:=h;exact absurd (h.zw (of_decide_eq_true b116)).2.2.2.2 (by simp at t4;omega))]
   refine RW.gE af cz ?_;refine SW.aj rfl (SW.seq (SW.gM [0,1,2,4,5,6,12,62,65,72,130,185] Zm af cz ?_));refine SW.ret ?_;exact End.mk [] (h4:=⟨rfl,rfl⟩)
  refine RW.gG af cz ?_;rcases p1:decide ((o.fz:Int)>16777215) with _ | _
  rotate_left
  .rw [aC hn (λ h=>by have h:Go.Sl.Form m o:=h;exact absurd h.fz (by simp at p1;omega))]
   refine RW.gE af cz ?_;refine SW.aj rfl (SW.seq (SW.gM [0,1,2,4,5,6,12,62,65,72,130,185] Zm af cz ?_));refine SW.ret ?_;exact End.mk [] (h4:=⟨rfl,rfl⟩)
  refine RW.gE af cz ?_;refine SW.au rfl (SW.skip (SW.seq (SW.gM [0,1,2,4,5,6,12,62,65,72,130,185] Zm af cz ?_)));refine SW.ret ?_;have hF:Go.Sl.Form m o:=⟨by simp at b1;omega,hpos,by simp at b3;omega,by simp at b4;omega,by simp at b5;omega,by simp at b6;omega,hk8,b8,hfar,λ h=>by omega,λ _=>g1,λ _=>g2,(λ h=>by have:=decide_eq_true h;rw [b97] at this;cases this),(λ h=>by have:=decide_eq_true h;rw [b118] at this;cases this),λ _=>⟨by simp at t0;omega,by simp at t1;omega,by simp at t2;omega,by simp at t3;omega,by simp at t4;omega⟩,(λ h=>by have:=decide_eq_true h;rw [b113] at this;cases this),by simp at p1;omega,(λ h=>by have:=decide_eq_true h;rw [b108] at this;cases this)⟩;have hV:iu (m:Int) o=0:=eY.2 ⟨by omega,by omega,hF⟩;rw [hV];exact End.mk [] (h4:=⟨rfl,rfl⟩)
 .have hK:aY o.kind=[99,97]:=by first | (rw [hkd];rfl) | (rcases hkd with h | h <;> rw [h] <;> rfl)
  have b99:decide (99∈aY o.kind)=true:=by rw [hK];decide
  have i99:=av (aY o.kind) h0s 99;rw [b99] at i99;have b97:decide (97∈aY o.kind)=true:=by rw [hK];decide
  have i97:=av (aY o.kind) h0s 97;rw [b97] at i97;have b118:decide (118∈aY o.kind)=false:=by rw [hK];decide
  have i118:=av (aY o.kind) h0s 118;rw [b118] at i118;have b116:decide (116∈aY o.kind)=false:=by rw [hK];decide
  have i116:=av (aY o.kind) h0s 116;rw [b116] at i116;have b113:decide (113∈aY o.kind)=false:=by rw [hK];decide
  have i113:=av (aY o.kind) h0s 113;rw [b113] at i113;have b108:decide (108∈aY o.kind)=false:=by rw [hK];decide
  have i108:=av (aY o.kind) h0s 108;rw [b108] at i108;have k0:((o.kind:Int) == 0)=false:=by simp;omega
  have k1:((o.kind:Int) != 0)=true:=by simp;omega
  refine SW.seq (SW.seq ?_);have cz:=Zq v1 (Zq v2 (Zq v3 (Zq v4 (Zq vl (Zq i99 (Zq i97 (Zq i118 (Zq i116 (Zq i113 (Zq i108 True.intro))))))))));refine SW.gB [0,1,2,4,5,6,12,62,65,72,130,185] Zm (Zq k0 k1) cz ?_;rcases g1:o.dep.aF o.aK with _ | _
  .rw [aC hn (λ h=>by have h:Go.Sl.Form m o:=h;exact by have:=h.aK (by omega);rw [g1] at this;cases this)]
   refine RW.gE (Zq k0 k1) cz ?_;refine SW.aj rfl (SW.seq (SW.gM [0,1,2,4,5,6,12,62,65,72,130,185] Zm af cz ?_));refine SW.ret ?_;exact End.mk [] (h4:=⟨rfl,rfl⟩)
  refine RW.gG (Zq k0 k1) cz ?_;rcases g2:o.dep.aF o.aM with _ | _
  .rw [aC hn (λ h=>by have h:Go.Sl.Form m o:=h;exact by have:=h.aM (of_decide_eq_true b99);rw [g2] at this;cases this)]
   refine RW.gE (Zq k0 k1) cz ?_;refine SW.aj rfl (SW.seq (SW.gM [0,1,2,4,5,6,12,62,65,72,130,185] Zm af cz ?_));refine SW.ret ?_;exact End.mk [] (h4:=⟨rfl,rfl⟩)
  refine RW.gG (Zq k0 k1) cz ?_;rcases g3:o.dep.aF o.at_ with _ | _
  .rw [aC hn (λ h=>by have h:Go.Sl.Form m o:=h;exact by have:=h.at_ (of_decide_eq_true b97);rw [g3] at this;cases this)]
   refine RW.gE (Zq k0 k1) cz ?_;refine SW.aj rfl (SW.seq (SW.gM [0,1,2,4,5,6,12,62,65,72,130,185] Zm af cz ?_));refine SW.ret ?_;exact End.mk [] (h4:=⟨rfl,rfl⟩)
  refine RW.gE (Zq k0 k1) cz ?_;refine SW.au rfl (SW.skip (SW.seq (SW.seq (SW.gB [0,1,2,4,5,6,12,62,65,72,130,185] Zm af cz ?_))));rcases p1:decide ((o.fz:Int)>16777215) with _ | _
  rotate_left
  .rw [aC hn (λ h=>by have h:Go.Sl.Form m o:=h;exact absurd h.fz (by simp at p1;omega))]
   refine RW.gE af cz ?_;refine SW.aj rfl (SW.seq (SW.gM [0,1,2,4,5,6,12,62,65,72,130,185] Zm af cz ?_));refine SW.ret ?_;exact End.mk [] (h4:=⟨rfl,rfl⟩)
  refine RW.gE af cz ?_;refine SW.au rfl (SW.skip (SW.seq (SW.gM [0,1,2,4,5,6,12,62,65,72,130,185] Zm af cz ?_)));refine SW.ret ?_;have hF:Go.Sl.Form m o:=⟨by simp at b1;omega,hpos,by simp at b3;omega,by simp at b4;omega,by simp at b5;omega,by simp at b6;omega,hk8,b8,hfar,λ h=>by omega,λ _=>g1,λ _=>g2,λ _=>g3,(λ h=>by have:=decide_eq_true h;rw [b118] at this;cases this),(λ h=>by have:=decide_eq_true h;rw [b116] at this;cases this),(λ h=>by have:=decide_eq_true h;rw [b113] at this;cases this),by simp at p1;omega,(λ h=>by have:=decide_eq_true h;rw [b108] at this;cases this)⟩;have hV:iu (m:Int) o=0:=eY.2 ⟨by omega,by omega,hF⟩;rw [hV];exact End.mk [] (h4:=⟨rfl,rfl⟩)
 .have hK:aY o.kind=[99,105,113,101]:=by first | (rw [hkd];rfl) | (rcases hkd with h | h <;> rw [h] <;> rfl)
  have b99:decide (99∈aY o.kind)=true:=by rw [hK];decide
  have i99:=av (aY o.kind) h0s 99;rw [b99] at i99;have b97:decide (97∈aY o.kind)=false:=by rw [hK];decide
  have i97:=av (aY o.kind) h0s 97;rw [b97] at i97;have b118:decide (118∈aY o.kind)=false:=by rw [hK];decide
  have i118:=av (aY o.kind) h0s 118;rw [b118] at i118;have b116:decide (116∈aY o.kind)=false:=by rw [hK];decide
  have i116:=av (aY o.kind) h0s 116;rw [b116] at i116;have b113:decide (113∈aY o.kind)=true:=by rw [hK];decide
  have i113:=av (aY o.kind) h0s 113;rw [b113] at i113;have b108:decide (108∈aY o.kind)=false:=by rw [hK];decide
  have i108:=av (aY o.kind) h0s 108;rw [b108] at i108;have k0:((o.kind:Int) == 0)=false:=by simp;omega
  have k1:((o.kind:Int) != 0)=true:=by simp;omega
  refine SW.seq (SW.seq ?_);have cz:=Zq v1 (Zq v2 (Zq v3 (Zq v4 (Zq vl (Zq i99 (Zq i97 (Zq i118 (Zq i116 (Zq i113 (Zq i108 True.intro))))))))));refine SW.gB [0,1,2,4,5,6,12,62,65,72,130,185] Zm (Zq k0 k1) cz ?_;rcases g1:o.dep.aF o.aK with _ | _
  .rw [aC hn (λ h=>by have h:Go.Sl.Form m o:=h;exact by have:=h.aK (by omega);rw [g1] at this;cases this)]
   refine RW.gE (Zq k0 k1) cz ?_;refine SW.aj rfl (SW.seq (SW.gM [0,1,2,4,5,6,12,62,65,72,130,185] Zm af cz ?_));refine SW.ret ?_;exact End.mk [] (h4:=⟨rfl,rfl⟩)
  refine RW.gG (Zq k0 k1) cz ?_;rcases g2:o.dep.aF o.aM with _ | _
  .rw [aC hn (λ h=>by have h:Go.Sl.Form m o:=h;exact by have:=h.aM (of_decide_eq_true b99);rw [g2] at this;cases this)]
   refine RW.gE (Zq k0 k1) cz ?_;refine SW.aj rfl (SW.seq (SW.gM [0,1,2,4,5,6,12,62,65,72,130,185] Zm af cz ?_));refine SW.ret ?_;exact End.mk [] (h4:=⟨rfl,rfl⟩)
  refine RW.gE (Zq k0 k1) cz ?_;refine SW.au rfl (SW.skip (SW.seq (SW.seq (SW.gB [0,1,2,4,5,6,12,62,65,72,130,185] Zm af cz ?_))));rcases q0:decide ((o.ua:Int)<1) with _ | _
  rotate_left
  .rw [aC hn (λ h=>by have h:Go.Sl.Form m o:=h;exact absurd (h.ua (of_decide_eq_true b113)).1 (by simp at q0;omega))]
   refine RW.gE af cz ?_;refine SW.aj rfl (SW.seq (SW.gM [0,1,2,4,5,6,12,62,65,72,130,185] Zm af cz ?_));refine SW.ret ?_;exact End.mk [] (h4:=⟨rfl,rfl⟩)
  refine RW.gG af cz ?_;rcases q1:decide ((o.ua:Int)>65535) with _ | _
  rotate_left
  .rw [aC hn (λ h=>by have h:Go.Sl.Form m o:=h;exact absurd (h.ua (of_decide_eq_true b113)).2 (by simp at q1;omega))]
   refine RW.gE af cz ?_;refine SW.aj rfl (SW.seq (SW.gM [0,1,2,4,5,6,12,62,65,72,130,185] Zm af cz ?_));refine SW.ret ?_;exact End.mk [] (h4:=⟨rfl,rfl⟩)
  refine RW.gG af cz ?_;rcases p1:decide ((o.fz:Int)>16777215) with _ | _
  rotate_left
  .rw [aC hn (λ h=>by have h:Go.Sl.Form m o:=h;exact absurd h.fz (by simp at p1;omega))]
   refine RW.gE af cz ?_;refine SW.aj rfl (SW.seq (SW.gM [0,1,2,4,5,6,12,62,65,72,130,185] Zm af cz ?_));refine SW.ret ?_;exact End.mk [] (h4:=⟨rfl,rfl⟩)
  refine RW.gE af cz ?_;refine SW.au rfl (SW.skip (SW.seq (SW.gM [0,1,2,4,5,6,12,62,65,72,130,185] Zm af cz ?_)));refine SW.ret ?_;have hF:Go.Sl.Form m o:=⟨by simp at b1;omega,hpos,by simp at b3;omega,by simp at b4;omega,by simp at b5;omega,by simp at b6;omega,hk8,b8,hfar,λ h=>by omega,λ _=>g1,λ _=>g2,(λ h=>by have:=decide_eq_true h;rw [b97] at this;cases this),(λ h=>by have:=decide_eq_true h;rw [b118] at this;cases this),(λ h=>by have:=decide_eq_true h;rw [b116] at this;cases this),λ _=>⟨by simp at q0;omega,by simp at q1;omega⟩,by simp at p1;omega,(λ h=>by have:=decide_eq_true h;rw [b108] at this;cases this)⟩;have hV:iu (m:Int) o=0:=eY.2 ⟨by omega,by omega,hF⟩;rw [hV];exact End.mk [] (h4:=⟨rfl,rfl⟩)
 .have hK:aY o.kind=[99,97,113]:=by first | (rw [hkd];rfl) | (rcases hkd with h | h <;> rw [h] <;> rfl)
  have b99:decide (99∈aY o.kind)=true:=by rw [hK];decide
  have i99:=av (aY o.kind) h0s 99;rw [b99] at i99;have b97:decide (97∈aY o.kind)=true:=by rw [hK];decide
  have i97:=av (aY o.kind) h0s 97;rw [b97] at i97;have b118:decide (118∈aY o.kind)=false:=by rw [hK];decide
  have i118:=av (aY o.kind) h0s 118;rw [b118] at i118;have b116:decide (116∈aY o.kind)=false:=by rw [hK];decide
  have i116:=av (aY o.kind) h0s 116;rw [b116] at i116;have b113:decide (113∈aY o.kind)=true:=by rw [hK];decide
  have i113:=av (aY o.kind) h0s 113;rw [b113] at i113;have b108:decide (108∈aY o.kind)=false:=by rw [hK];decide
  have i108:=av (aY o.kind) h0s 108;rw [b108] at i108;have k0:((o.kind:Int) == 0)=false:=by simp;omega
  have k1:((o.kind:Int) != 0)=true:=by simp;omega
  refine SW.seq (SW.seq ?_);have cz:=Zq v1 (Zq v2 (Zq v3 (Zq v4 (Zq vl (Zq i99 (Zq i97 (Zq i118 (Zq i116 (Zq i113 (Zq i108 True.intro))))))))));refine SW.gB [0,1,2,4,5,6,12,62,65,72,130,185] Zm (Zq k0 k1) cz ?_;rcases g1:o.dep.aF o.aK with _ | _
  .rw [aC hn (λ h=>by have h:Go.Sl.Form m o:=h;exact by have:=h.aK (by omega);rw [g1] at this;cases this)]
   refine RW.gE (Zq k0 k1) cz ?_;refine SW.aj rfl (SW.seq (SW.gM [0,1,2,4,5,6,12,62,65,72,130,185] Zm af cz ?_));refine SW.ret ?_;exact End.mk [] (h4:=⟨rfl,rfl⟩)
  refine RW.gG (Zq k0 k1) cz ?_;rcases g2:o.dep.aF o.aM with _ | _
  .rw [aC hn (λ h=>by have h:Go.Sl.Form m o:=h;exact by have:=h.aM (of_decide_eq_true b99);rw [g2] at this;cases this)]
   refine RW.gE (Zq k0 k1) cz ?_;refine SW.aj rfl (SW.seq (SW.gM [0,1,2,4,5,6,12,62,65,72,130,185] Zm af cz ?_));refine SW.ret ?_;exact End.mk [] (h4:=⟨rfl,rfl⟩)
  refine RW.gG (Zq k0 k1) cz ?_;rcases g3:o.dep.aF o.at_ with _ | _
  .rw [aC hn (λ h=>by have h:Go.Sl.Form m o:=h;exact by have:=h.at_ (of_decide_eq_true b97);rw [g3] at this;cases this)]
   refine RW.gE (Zq k0 k1) cz ?_;refine SW.aj rfl (SW.seq (SW.gM [0,1,2,4,5,6,12,62,65,72,130,185] Zm af cz ?_));refine SW.ret ?_;exact End.mk [] (h4:=⟨rfl,rfl⟩)
  refine RW.gE (Zq k0 k1) cz ?_;refine SW.au rfl (SW.skip (SW.seq (SW.seq (SW.gB [0,1,2,4,5,6,12,62,65,72,130,185] Zm af cz ?_))));rcases q0:decide ((o.ua:Int)<1) with _ | _
  rotate_left
  .rw [aC hn (λ h=>by have h:Go.Sl.Form m o:=h;exact absurd (h.ua (of_decide_eq_true b113)).1 (by simp at q0;omega))]
   refine RW.gE af cz ?_;refine SW.aj rfl (SW.seq (SW.gM [0,1,2,4,5,6,12,62,65,72,130,185] Zm af cz ?_));refine SW.ret ?_;exact End.mk [] (h4:=⟨rfl,rfl⟩)
  refine RW.gG af cz ?_;rcases q1:decide ((o.ua:Int)>65535) with _ | _
  rotate_left
  .rw [aC hn (λ h=>by have h:Go.Sl.Form m o:=h;exact absurd (h.ua (of_decide_eq_true b113)).2 (by simp at q1;omega))]
   refine RW.gE af cz ?_;refine SW.aj rfl (SW.seq (SW.gM [0,1,2,4,5,6,12,62,65,72,130,185] Zm af cz ?_));refine SW.ret ?_;exact End.mk [] (h4:=⟨rfl,rfl⟩)
  refine RW.gG af cz ?_;rcases p1:decide ((o.fz:Int)>16777215) with _ | _
  rotate_left
  .rw [aC hn (λ h=>by have h:Go.Sl.Form m o:=h;exact absurd h.fz (by simp at p1;omega))]
   refine RW.gE af cz ?_;refine SW.aj rfl (SW.seq (SW.gM [0,1,2,4,5,6,12,62,65,72,130,185] Zm af cz ?_));refine SW.ret ?_;exact End.mk [] (h4:=⟨rfl,rfl⟩)
  refine RW.gE af cz ?_;refine SW.au rfl (SW.skip (SW.seq (SW.gM [0,1,2,4,5,6,12,62,65,72,130,185] Zm af cz ?_)));refine SW.ret ?_;have hF:Go.Sl.Form m o:=⟨by simp at b1;omega,hpos,by simp at b3;omega,by simp at b4;omega,by simp at b5;omega,by simp at b6;omega,hk8,b8,hfar,λ h=>by omega,λ _=>g1,λ _=>g2,λ _=>g3,(λ h=>by have:=decide_eq_true h;rw [b118] at this;cases this),(λ h=>by have:=decide_eq_true h;rw [b116] at this;cases this),λ _=>⟨by simp at q0;omega,by simp at q1;omega⟩,by simp at p1;omega,(λ h=>by have:=decide_eq_true h;rw [b108] at this;cases this)⟩;have hV:iu (m:Int) o=0:=eY.2 ⟨by omega,by omega,hF⟩;rw [hV];exact End.mk [] (h4:=⟨rfl,rfl⟩)
 .have hK:aY o.kind=[99,97,118]:=by first | (rw [hkd];rfl) | (rcases hkd with h | h <;> rw [h] <;> rfl)
  have b99:decide (99∈aY o.kind)=true:=by rw [hK];decide
  have i99:=av (aY o.kind) h0s 99;rw [b99] at i99;have b97:decide (97∈aY o.kind)=true:=by rw [hK];decide
  have i97:=av (aY o.kind) h0s 97;rw [b97] at i97;have b118:decide (118∈aY o.kind)=true:=by rw [hK];decide
  have i118:=av (aY o.kind) h0s 118;rw [b118] at i118;have b116:decide (116∈aY o.kind)=false:=by rw [hK];decide
  have i116:=av (aY o.kind) h0s 116;rw [b116] at i116;have b113:decide (113∈aY o.kind)=false:=by rw [hK];decide
  have i113:=av (aY o.kind) h0s 113;rw [b113] at i113;have b108:decide (108∈aY o.kind)=false:=by rw [hK];decide
  have i108:=av (aY o.kind) h0s 108;rw [b108] at i108;have k0:((o.kind:Int) == 0)=false:=by simp;omega
  have k1:((o.kind:Int) != 0)=true:=by simp;omega
  refine SW.seq (SW.seq ?_);have cz:=Zq v1 (Zq v2 (Zq v3 (Zq v4 (Zq vl (Zq i99 (Zq i97 (Zq i118 (Zq i116 (Zq i113 (Zq i108 True.intro))))))))));refine SW.gB [0,1,2,4,5,6,12,62,65,72,130,185] Zm (Zq k0 k1) cz ?_;rcases g1:o.dep.aF o.aK with _ | _
  .rw [aC hn (λ h=>by have h:Go.Sl.Form m o:=h;exact by have:=h.aK (by omega);rw [g1] at this;cases this)]
   refine RW.gE (Zq k0 k1) cz ?_;refine SW.aj rfl (SW.seq (SW.gM [0,1,2,4,5,6,12,62,65,72,130,185] Zm af cz ?_));refine SW.ret ?_;exact End.mk [] (h4:=⟨rfl,rfl⟩)
  refine RW.gG (Zq k0 k1) cz ?_;rcases g2:o.dep.aF o.aM with _ | _
  .rw [aC hn (λ h=>by have h:Go.Sl.Form m o:=h;exact by have:=h.aM (of_decide_eq_true b99);rw [g2] at this;cases this)]
   refine RW.gE (Zq k0 k1) cz ?_;refine SW.aj rfl (SW.seq (SW.gM [0,1,2,4,5,6,12,62,65,72,130,185] Zm af cz ?_));refine SW.ret ?_;exact End.mk [] (h4:=⟨rfl,rfl⟩)
  refine RW.gG (Zq k0 k1) cz ?_;rcases g3:o.dep.aF o.at_ with _ | _
  .rw [aC hn (λ h=>by have h:Go.Sl.Form m o:=h;exact by have:=h.at_ (of_decide_eq_true b97);rw [g3] at this;cases this)]
   refine RW.gE (Zq k0 k1) cz ?_;refine SW.aj rfl (SW.seq (SW.gM [0,1,2,4,5,6,12,62,65,72,130,185] Zm af cz ?_));refine SW.ret ?_;exact End.mk [] (h4:=⟨rfl,rfl⟩)
  refine RW.gG (Zq k0 k1) cz ?_;rcases g4:o.dep.aF o.jD with _ | _
  .rw [aC hn (λ h=>by have h:Go.Sl.Form m o:=h;exact by have:=h.jD (of_decide_eq_true b118);rw [g4] at this;cases this)]
   refine RW.gE (Zq k0 k1) cz ?_;refine SW.aj rfl (SW.seq (SW.gM [0,1,2,4,5,6,12,62,65,72,130,185] Zm af cz ?_));refine SW.ret ?_;exact End.mk [] (h4:=⟨rfl,rfl⟩)
  refine RW.gE (Zq k0 k1) cz ?_;refine SW.au rfl (SW.skip (SW.seq (SW.seq (SW.gB [0,1,2,4,5,6,12,62,65,72,130,185] Zm af cz ?_))));rcases p1:decide ((o.fz:Int)>16777215) with _ | _
  rotate_left
  .rw [aC hn (λ h=>by have h:Go.Sl.Form m o:=h;exact absurd h.fz (by simp at p1;omega))]
   refine RW.gE af cz ?_;refine SW.aj rfl (SW.seq (SW.gM [0,1,2,4,5,6,12,62,65,72,130,185] Zm af cz ?_));refine SW.ret ?_;exact End.mk [] (h4:=⟨rfl,rfl⟩)
  refine RW.gE af cz ?_;refine SW.au rfl (SW.skip (SW.seq (SW.gM [0,1,2,4,5,6,12,62,65,72,130,185] Zm af cz ?_)));refine SW.ret ?_;have hF:Go.Sl.Form m o:=⟨by simp at b1;omega,hpos,by simp at b3;omega,by simp at b4;omega,by simp at b5;omega,by simp at b6;omega,hk8,b8,hfar,λ h=>by omega,λ _=>g1,λ _=>g2,λ _=>g3,λ _=>g4,(λ h=>by have:=decide_eq_true h;rw [b116] at this;cases this),(λ h=>by have:=decide_eq_true h;rw [b113] at this;cases this),by simp at p1;omega,(λ h=>by have:=decide_eq_true h;rw [b108] at this;cases this)⟩;have hV:iu (m:Int) o=0:=eY.2 ⟨by omega,by omega,hF⟩;rw [hV];exact End.mk [] (h4:=⟨rfl,rfl⟩)
 .have hK:aY o.kind=[99,108]:=by first | (rw [hkd];rfl) | (rcases hkd with h | h <;> rw [h] <;> rfl)
  have b99:decide (99∈aY o.kind)=true:=by rw [hK];decide
  have i99:=av (aY o.kind) h0s 99;rw [b99] at i99;have b97:decide (97∈aY o.kind)=false:=by rw [hK];decide
  have i97:=av (aY o.kind) h0s 97;rw [b97] at i97;have b118:decide (118∈aY o.kind)=false:=by rw [hK];decide
  have i118:=av (aY o.kind) h0s 118;rw [b118] at i118;have b116:decide (116∈aY o.kind)=false:=by rw [hK];decide
  have i116:=av (aY o.kind) h0s 116;rw [b116] at i116;have b113:decide (113∈aY o.kind)=false:=by rw [hK];decide
  have i113:=av (aY o.kind) h0s 113;rw [b113] at i113;have b108:decide (108∈aY o.kind)=true:=by rw [hK];decide
  have i108:=av (aY o.kind) h0s 108;rw [b108] at i108;have k0:((o.kind:Int) == 0)=false:=by simp;omega
  have k1:((o.kind:Int) != 0)=true:=by simp;omega
  refine SW.seq (SW.seq ?_);have cz:=Zq v1 (Zq v2 (Zq v3 (Zq v4 (Zq vl (Zq i99 (Zq i97 (Zq i118 (Zq i116 (Zq i113 (Zq i108 True.intro))))))))));refine SW.gB [0,1,2,4,5,6,12,62,65,72,130,185] Zm (Zq k0 k1) cz ?_;rcases g1:o.dep.aF o.aK with _ | _
  .rw [aC hn (λ h=>by have h:Go.Sl.Form m o:=h;exact by have:=h.aK (by omega);rw [g1] at this;cases this)]
   refine RW.gE (Zq k0 k1) cz ?_;refine SW.aj rfl (SW.seq (SW.gM [0,1,2,4,5,6,12,62,65,72,130,185] Zm af cz ?_));refine SW.ret ?_;exact End.mk [] (h4:=⟨rfl,rfl⟩)
  refine RW.gG (Zq k0 k1) cz ?_;rcases g2:o.dep.aF o.aM with _ | _
  .rw [aC hn (λ h=>by have h:Go.Sl.Form m o:=h;exact by have:=h.aM (of_decide_eq_true b99);rw [g2] at this;cases this)]
   refine RW.gE (Zq k0 k1) cz ?_;refine SW.aj rfl (SW.seq (SW.gM [0,1,2,4,5,6,12,62,65,72,130,185] Zm af cz ?_));refine SW.ret ?_;exact End.mk [] (h4:=⟨rfl,rfl⟩)
  refine RW.gE (Zq k0 k1) cz ?_;refine SW.au rfl (SW.skip (SW.seq (SW.seq (SW.gB [0,1,2,4,5,6,12,62,65,72,130,185] Zm af cz ?_))));rcases p1:decide ((o.fz:Int)>16777215) with _ | _
  rotate_left
  .rw [aC hn (λ h=>by have h:Go.Sl.Form m o:=h;exact absurd h.fz (by simp at p1;omega))]
   refine RW.gE af cz ?_;refine SW.aj rfl (SW.seq (SW.gM [0,1,2,4,5,6,12,62,65,72,130,185] Zm af cz ?_));refine SW.ret ?_;exact End.mk [] (h4:=⟨rfl,rfl⟩)
  refine RW.gG af cz ?_;rcases l1:j8 o o.cl with _ | _
  .rw [aC hn (λ h=>by have h:Go.Sl.Form m o:=h;exact by have:=h.lines (of_decide_eq_true b108);rw [l1] at this;cases this)]
   refine RW.gE af cz ?_;refine SW.aj rfl (SW.seq (SW.gM [0,1,2,4,5,6,12,62,65,72,130,185] Zm af cz ?_));refine SW.ret ?_;exact End.mk [] (h4:=⟨rfl,rfl⟩)
  refine RW.gE af cz ?_;refine SW.au rfl (SW.skip (SW.seq (SW.gM [0,1,2,4,5,6,12,62,65,72,130,185] Zm af cz ?_)));refine SW.ret ?_;have hF:Go.Sl.Form m o:=⟨by simp at b1;omega,hpos,by simp at b3;omega,by simp at b4;omega,by simp at b5;omega,by simp at b6;omega,hk8,b8,hfar,λ h=>by omega,λ _=>g1,λ _=>g2,(λ h=>by have:=decide_eq_true h;rw [b97] at this;cases this),(λ h=>by have:=decide_eq_true h;rw [b118] at this;cases this),(λ h=>by have:=decide_eq_true h;rw [b116] at this;cases this),(λ h=>by have:=decide_eq_true h;rw [b113] at this;cases this),by simp at p1;omega,λ _=>l1⟩;have hV:iu (m:Int) o=0:=eY.2 ⟨by omega,by omega,hF⟩;rw [hV];exact End.mk [] (h4:=⟨rfl,rfl⟩)
theorem G8 (o:ag)(n:Int)(hd:o.dot.wf)(hk:o.kind<256)(hl:o.mW)(k:Nat):aJ Tryz.prog ref05_Check.f [.agg o.cells,.d (.int .i64 n)] [] k 0 (.d (.int .i64 (iu n o))) []:=(G7 o n hd hk hl).sc rfl k
end Go.Proofs.YtaelhkkjgfobhaaGreat
