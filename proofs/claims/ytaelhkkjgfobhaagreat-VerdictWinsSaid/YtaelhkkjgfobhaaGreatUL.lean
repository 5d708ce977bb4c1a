/-
 Shapes: what is well-formed names what it needs (plain).
-/
import Derived.Test.YtaelhkkjgfobhaaGreatUE
set_option linter.unusedSectionVars false
set_option linter.unusedVariables false
set_option linter.unusedSimpArgs false
namespace Go.Proofs.YtaelhkkjgfobhaaGreat
open Go.Sl Go.Proofs
section
section
variable {l:List ag} {o:ag} (hw:eW l o=0)
include hw
theorem uV (hk:o.kind≠0):∃ c,MM.get (au l).at_ o.aK=some c/\c.aH=o.aH/\c.hold=o.who/\jV c o.kind=false:=by
 unfold eW qn at hw;obtain ⟨_,_,h3,_,_⟩:=y7.1 hw;obtain ⟨e1,e2,e3⟩:=h3 hk;obtain ⟨c,a,h1,_,_,_,h5⟩:=oG.1 e1;rw [h1] at e2 e3;exact ⟨c,h1,h5,Int.ofNat_inj.1 e2,e3⟩
theorem Cz:mA l (au l).at_ (au l).made o (eU (au l).at_ o.aK o.at_ (kZ (au l).at_ o.at_))=true:=by
 unfold eW qn at hw;exact (y7.1 hw).2.2.2.2
theorem zg (hk:o.kind=2):eU (au l).at_ o.aK o.at_ (kZ (au l).at_ o.at_)=true:=by
 have:=Cz hw;unfold mA at this;rw [if_pos hk,Bool.and_eq_true] at this;exact this.2
end
end
section
end
section
section
attribute [local irreducible] SW RW aG SC ai ak
theorem FE (S:Sh):SB Tryz.prog shape_Shape_Tree.f [.ptr 0 0] S.h0 7 0 λ r F=>r= .ptr 4 0/\F=S.h0:=by
 refine shape_Shape_Tree.enter (by simp [SV.av,SV.ok]) (S.ok (Nat.le_refl 7)) (by simp) ?_;dsimp only [shape_Shape_Tree.s,Co.M,Co.J,Co.F,Co.T,Co.P,Co.D,Co.A,Co.S];(repeat (first | refine SW.seq ?_ | refine SW.block ?_ | refine SW.g1 [0,2,4] Zm af (tD S) ?_ | refine SW.skip ?_ | refine SW.exit ?_ | refine SW.ret ?_ | refine SW.an rfl ?_ | refine SW.ah rfl ?_));exact End.mk S.h0 (h4:=⟨rfl,rfl⟩) (h6:=S.ok (Nat.le_refl 7))
theorem dh.Is (S:Sh)(k:Nat):aG Tryz.prog shape_Shape_Tree.f [.ptr 10 0] S.lg k 0 (.ptr 2 0) S.lg:=by
 have:=SB.mX n10.nl (FE S) (by decide) (λ i hi=>S.JM i hi) k;rw [S.EL n10 k] at this;exact this
end
end
section
theorem It (l:List ag)(d:Dt)(o:ag):k_ l (au l).at_ d o=((bC l 10 d).2 && (decide ((bC l 10 d).1.aH=o.aH) && iV l d o)):=by
 obtain ⟨a1,a2⟩:=(dg l).get d;have a1:(bC l 10 d).2=(MM.get (au l).at_ d).isSome:=a1;unfold k_ MM.has;rw [a1];cases h:MM.get (au l).at_ d with
 | none=>rfl
 | some c=>
  have:=a2 c h;rw [this];rfl
theorem Iu {l:List ag}{d:Dt}{o:ag}(h:k_ l (au l).at_ d o=true):(bC l 10 d).1=(MM.get (au l).at_ d).getD Cr.zero:=by
 obtain ⟨c,a,h1,_⟩:=oG.1 h;obtain ⟨_,a2⟩:=(dg l).get d;have:=a2 c h1;rw [this,h1];rfl
theorem FF (n:Nat):IntKind.u8.wrap (n:Int)=((n % 256:Nat):Int):=by
 unfold IntKind.wrap;simp [IntKind.bits,IntKind.signed]
theorem Iv (m i:Nat):m &&& 2 ^ i=if m.testBit i then 2 ^ i else 0:=by
 apply Nat.eq_of_testBit_eq;intro j;rw [Nat.testBit_and,Nat.testBit_two_pow]
 by_cases e:i=j
 .subst e;cases h:m.testBit i <;> simp [Nat.testBit_two_pow]
 .cases h:m.testBit i <;> simp [e,Nat.testBit_two_pow]
theorem FG {c:Cr}{q:Nat}(h0:q≠0)(h8:q<=8):((IntKind.u8.wrap ((c.aT:Int).tdiv (fB q:Int))).tmod 2 != 1)=jV c q/\(fB q:Int)≠0:=by
 have key:∀ i,i<=2->fB q=2 ^ i->((IntKind.u8.wrap ((c.aT:Int).tdiv (fB q:Int))).tmod 2 != 1)=jV c q/\(fB q:Int)≠0:=λ i h2i hi=>by
  unfold jV;rw [hi,and_eq];have e:(c.aT:Int).tdiv ((2 ^ i:Nat):Int)=((c.aT / 2 ^ i:Nat):Int):=(Int.ofNat_tdiv _ _).symm;have e2:(((c.aT / 2 ^ i % 256:Nat):Int)).tmod 2=((c.aT / 2 ^ i % 256 % 2:Nat):Int):=(Int.ofNat_tmod _ 2).symm;rw [e,FF,e2,BitVec.toNat_and,BitVec.toNat_ofNat,BitVec.toNat_ofNat,Nat.mod_eq_of_lt (show 2 ^ i<2 ^ 8 from Nat.pow_lt_pow_right (by omega) (by omega)),Iv];have h3:c.aT / 2 ^ i % 256 % 2=(c.aT % 2 ^ 8) / 2 ^ i % 2:=by
   rcases (show i=0\/i=1\/i=2 by omega) with rfl | rfl | rfl <;> simp only [Nat.reducePow] <;> omega
  have h4:(c.aT % 2 ^ 8).testBit i=decide ((c.aT % 2 ^ 8) / 2 ^ i % 2=1):=Nat.testBit_eq_decide_div_mod_eq;have hp:=Nat.two_pow_pos i;refine ⟨?_,by omega⟩;rw [h3,h4];generalize (c.aT % 2 ^ 8) / 2 ^ i % 2=m
  by_cases hm:m=1
  .subst hm;simp
  .rw [decide_eq_false hm,Bool.eq_iff_iff]
   simp only [Bool.false_eq_true,if_false,bne_iff_ne,ne_eq];constructor
   .intro _;omega
   .intro _;omega
 rcases (show q=1\/q=2\/q=3\/q=4\/q=5\/q=6\/q=7\/q=8 by omega) with rfl | rfl | rfl | rfl | rfl | rfl | rfl | rfl
 .exact key 0 (by omega) rfl
 .exact key 0 (by omega) rfl
 .exact key 1 (by omega) rfl
 .exact key 1 (by omega) rfl
 .exact key 1 (by omega) rfl
 .exact key 2 (by omega) rfl
 .exact key 2 (by omega) rfl
 .exact key 1 (by omega) rfl
noncomputable def oJ (l:List ag)(d aH:Dt):Bool:=match aF l d with
 | some a=>decide (a.kind=3) && (decide (a.aH=aH) && decide (eW l a=0))
 | none=>false
theorem FH {l:List ag}{a:ag}(h:a.kind=3):eW l a=fD l (au l).at_ (au l).made a true:=by
 unfold eW qn;have:mA l (au l).at_ (au l).made a (eU (au l).at_ a.aK a.at_ (kZ (au l).at_ a.at_))=true:=by
  unfold mA;rw [if_neg (by omega),if_neg (by omega),if_neg (by omega),if_neg (by omega)]
 rw [this]
theorem FI {l:List ag}{s:ag}(h:s.kind=4):eW l s=fD l (au l).at_ (au l).made s (iU l (au l).at_ (au l).made s.at_ s):=by
 unfold eW qn;have:mA l (au l).at_ (au l).made s (eU (au l).at_ s.aK s.at_ (kZ (au l).at_ s.at_))=iU l (au l).at_ (au l).made s.at_ s:=by
  unfold mA;rw [if_neg (by omega),if_pos (.inl h)]
 rw [this]
theorem zh (l:List ag)(d:Dt)(o:ag):iU l (au l).at_ (au l).made d o=(oJ l d o.aH && iV l d o):=by
 unfold iU yZ oJ;cases h:aF l d with
 | none=>rfl
 | some a=>
  dsimp only;rw [bz h]
  by_cases h3:a.kind=3
  .rw [FH h3]
   cases decide (a.aH=o.aH) <;> cases iV l d o <;> simp [h3]
  .simp [h3]
theorem Iw (l:List ag)(c:Cm)(o:ag):lU l (au l).at_ (au l).made c o=((oJ l c.line o.aH && iV l c.line o) && (decide (c.jR=c.line) || (match aF l c.jR with
  | some s=>decide (s.kind=4) && (decide (s.at_=c.line) && (iV l c.jR o && decide (eW l s=0)))
  | none=>false))):=by
 unfold lU;rw [zh]
 congr 2
 unfold s9;cases h:aF l c.jR with
 | none=>rfl
 | some s=>
  dsimp only
  by_cases h4:s.kind=4
  .rw [FI h4]
   by_cases hw:fD l (au l).at_ (au l).made s (iU l (au l).at_ (au l).made s.at_ s)=0
   .simp only [h4,hw,and_self,if_true,Option.isSome_some,Option.getD_some,decide_true,Bool.true_and,Bool.and_true]
   .simp only [hw,and_false,if_false,Option.isSome_none,Bool.false_and,decide_false,Bool.and_false]
  .simp only [h4,false_and,if_false,Option.isSome_none,Bool.false_and,decide_false]
end
section
section
attribute [local irreducible] SW RW aG SC ai ak fB
variable (l:List ag) (hl:l.length<1000000000)
include hl
theorem oK (d:Dt)(k:Nat):aG Tryz.prog ref10_Find.f [ops l,.agg d.cells] [] k 0 (.cZ [.agg (l5 l d).cells,bl (aF l d).isSome]) []:=o9 l (by omega) d k
theorem Lb (d:Dt)(o:ag):Go.Sl.Pure Tryz.prog ref17_before.f [ops l,.agg d.cells,.agg o.cells] (bl (iV l d o)):=by
 have hf:=oK l hl d;have e:iV l d o=((aF l d).isSome && (l5 l d).before o):=rfl;rw [e];obtain ⟨a,ha⟩:∃ a,l5 l d=a:=⟨_,rfl⟩;rw [ha] at hf ⊢;refine ref17_before.enter (by first | rfl | simp [SV.ok,SV.av]) (by first | rfl | simp [Hp.ok,Ob.ok,SV.ok,SV.av,aB.aj]) (by simp) ?_;dsimp only [ref17_before.s,Co.M,Co.J,Co.H,Co.F,Co.C,Co.B,Co.bD,Co.K,Co.E,Co.Q,Co.x,Co.W,Co.U,Co.S];rcases hi:(aF l d).isSome with _ | _
 ·(repeat (first | refine SW.seq ?_ | refine SW.block ?_ | refine SW.g2 [0,1,2,4,5,6,7,8] Zm hi hf (bV a o) ?_ | refine SW.skip ?_ | refine SW.exit ?_ | refine SW.ret ?_ | refine SW.an rfl ?_ | refine SW.ah rfl ?_))
  exact End.mk [] (h4:=⟨rfl,rfl⟩)
 ·(repeat (first | refine SW.seq ?_ | refine SW.block ?_ | refine SW.g2 [0,1,2,4,5,6,7,8] Zm hi hf (bV a o) ?_ | refine SW.skip ?_ | refine SW.exit ?_ | refine SW.ret ?_ | refine SW.an rfl ?_ | refine SW.ah rfl ?_))
  exact End.mk [] (h4:=⟨by rw [Bool.true_and];rfl,rfl⟩)
theorem xH (d:Dt)(o:ag)(k:Nat):aG Tryz.prog ref17_before.f [ops l,.agg d.cells,.agg o.cells] [] k 0 (bl (iV l d o)) []:=(Lb l hl d o).sc rfl k
theorem CA (o:ag):Go.Sl.Pure Tryz.prog ref17_cart.f [ops l,.agg o.cells] (bl (k9 l o)):=by
 have hf:=oK l hl o.aH;refine ref17_cart.enter (by first | rfl | simp [SV.ok,SV.av]) (by first | rfl | simp [Hp.ok,Ob.ok,SV.ok,SV.av,aB.aj]) (by simp) ?_;dsimp only [ref17_cart.s,Co.M,Co.J,Co.H,Co.F,Co.C,Co.B,Co.b8,Co.bD,Co.T,Co.K,Co.E,Co.Q,Co.x,Co.W,Co.U,Co.D,Co.S]
 by_cases hk:o.kind=0
 .have z:((o.kind:Int) == 0)=true:=by rw [hk];rfl
  have e:k9 l o=decide (o.aH=o.dot):=by unfold k9;rw [if_pos hk]
  rw [e];(repeat (first | refine SW.seq ?_ | refine SW.block ?_ | refine SW.g0 [0,1,3,4,5,6,9] Zm z ?_ | refine SW.skip ?_ | refine SW.exit ?_ | refine SW.ret ?_ | refine SW.an rfl ?_ | refine SW.ah rfl ?_));exact End.mk [] (h4:=⟨rfl,rfl⟩)
 have z:((o.kind:Int) == 0)=false:=by simp;exact hk
 obtain ⟨a,ha⟩:∃ a,l5 l o.aH=a:=⟨_,rfl⟩;have e:k9 l o=((aF l o.aH).isSome && (decide (a.kind=0) && (decide (a.aH=o.aH) && a.before o))):=by
  unfold k9;rw [if_neg hk];cases h:aF l o.aH with
  | none=>rfl
  | some b=>
   have hb:a=b:=by rw [<- ha,bz h]
   rw [bz h,hb,dN h]
 rw [e];rw [ha] at hf;rcases hi:(aF l o.aH).isSome with _ | _
 ·(repeat (first | refine SW.seq ?_ | refine SW.block ?_ | refine SW.g2 [0,1,3,4,5,6,9] Zm (Zq z hi) hf (bV a o) ?_ | refine SW.skip ?_ | refine SW.exit ?_ | refine SW.ret ?_ | refine SW.an rfl ?_ | refine SW.ah rfl ?_))
  exact End.mk [] (h4:=⟨rfl,rfl⟩)
 by_cases h1:a.kind=0
 rotate_left
 .have z1:((a.kind:Int) == 0)=false:=by simp;exact h1
  (repeat (first | refine SW.seq ?_ | refine SW.block ?_ | refine SW.g2 [0,1,3,4,5,6,9] Zm (Zq z (Zq hi z1)) hf (bV a o) ?_ | refine SW.skip ?_ | refine SW.exit ?_ | refine SW.ret ?_ | refine SW.an rfl ?_ | refine SW.ah rfl ?_));exact End.mk [] (h4:=⟨by rw [decide_eq_false h1];rfl,rfl⟩)
 have z1:((a.kind:Int) == 0)=true:=by rw [h1];rfl
 rw [decide_eq_true h1];rcases h2:decide (a.aH=o.aH) with _ | _
 ·(repeat (first | refine SW.seq ?_ | refine SW.block ?_ | refine SW.g2 [0,1,3,4,5,6,9] Zm (Zq z (Zq hi (Zq z1 h2))) hf (bV a o) ?_ | refine SW.skip ?_ | refine SW.exit ?_ | refine SW.ret ?_ | refine SW.an rfl ?_ | refine SW.ah rfl ?_))
  exact End.mk [] (h4:=⟨rfl,rfl⟩)
 ·(repeat (first | refine SW.seq ?_ | refine SW.block ?_ | refine SW.g2 [0,1,3,4,5,6,9] Zm (Zq z (Zq hi (Zq z1 h2))) hf (bV a o) ?_ | refine SW.skip ?_ | refine SW.exit ?_ | refine SW.ret ?_ | refine SW.an rfl ?_ | refine SW.ah rfl ?_))
  exact End.mk [] (h4:=⟨by simp only [Bool.true_and];rfl,rfl⟩)
theorem CB (o:ag)(k:Nat):aG Tryz.prog ref17_cart.f [ops l,.agg o.cells] [] k 0 (bl (k9 l o)) []:=(CA l hl o).sc rfl k
variable (hr:∀ x,x∈l->x.aT<256)
include hr
set_option maxHeartbeats 4000000 in
theorem CC (d:Dt)(o:ag):Go.Sl.Pure Tryz.prog ref17_cred.f [ops l,.agg d.cells,.agg o.cells] (.cZ [.agg (bC l 10 d).1.cells,bl (k_ l (au l).at_ d o)]):=by
 have hg:=xw (by omega) hr d;have hb:=xH l hl d o;rw [It];obtain ⟨⟨c,is⟩,hc⟩:∃ p,bC l 10 d=p:=⟨_,rfl⟩;rw [hc] at hg ⊢;dsimp only at hg ⊢;obtain ⟨bf,hbf⟩:∃ b,iV l d o=b:=⟨_,rfl⟩;rw [hbf] at hb ⊢;refine ref17_cred.enter (by first | rfl | simp [SV.ok,SV.av]) (by first | rfl | simp [Hp.ok,Ob.ok,SV.ok,SV.av,aB.aj]) (by simp) ?_;dsimp only [ref17_cred.s,Co.M,Co.G,Co.J,Co.H,Co.F,Co.C,Co.B,Co.b8,Co.ay,Co.bw,Co.i6,Co.K,Co.E,Co.Q,Co.x,Co.W,Co.U,Co.S];refine SW.seq (SW.g0 [0,1,2,4,5,6,7,8,9] Zm af ?_);refine SW.seq (SW.g1 [0,1,2,4,5,6,7,8,9] Zm af hg ?_);refine SW.seq ?_;cases is with
 | false=>
  refine SW.g1 [0,1,2,4,5,6,7,8,9] Zm af hb ?_;refine SW.ret ?_;exact End.mk [] (h1:=by first | rfl | simp [BY,lk,List.lookup,zN];rfl) (h4:=⟨rfl,rfl⟩)
 | true=>
  rcases h2:decide (c.aH=o.aH) with _ | _
  .refine SW.g1 [0,1,2,4,5,6,7,8,9] Zm h2 hb ?_
   refine SW.ret ?_;exact End.mk [] (h4:=⟨rfl,rfl⟩)
  .refine SW.g1 [0,1,2,4,5,6,7,8,9] Zm h2 hb ?_
   refine SW.ret ?_;exact End.mk [] (h4:=⟨by simp only [Bool.true_and];rfl,rfl⟩)
theorem wG (d:Dt)(o:ag)(k:Nat):aG Tryz.prog ref17_cred.f [ops l,.agg d.cells,.agg o.cells] [] k 0 (.cZ [.agg (bC l 10 d).1.cells,bl (k_ l (au l).at_ d o)]) []:=(CC l hl hr d o).sc rfl k
end
section
attribute [local irreducible] SW RW aG SC ai ak
theorem CD (q:Nat)(hq:q<=8):Go.Sl.Pure Tryz.prog ref17_Needs.f [u8 q] (u8 (fB q)):=by
 rcases (show q=0\/q=1\/q=2\/q=3\/q=4\/q=5\/q=6\/q=7\/q=8 by omega) with rfl | rfl | rfl | rfl | rfl | rfl | rfl | rfl | rfl
 all_goals
  refine ref17_Needs.enter (by first | rfl | simp [SV.ok,SV.av]) (by first | rfl | simp [Hp.ok,Ob.ok,SV.ok,SV.av,aB.aj]) (by simp) ?_;dsimp only [ref17_Needs.s,Co.M,Co.J,Co.F,Co.b8,Co.S];(repeat (first | refine SW.seq ?_ | refine SW.block ?_ | refine SW.g0 [0,2,3,4,7,12] Zm af ?_ | refine SW.skip ?_ | refine SW.exit ?_ | refine SW.ret ?_ | refine SW.an rfl ?_ | refine SW.ah rfl ?_));exact End.mk [] (h4:=⟨rfl,rfl⟩)
theorem CE (q:Nat)(hq:q<=8)(k:Nat):aG Tryz.prog ref17_Needs.f [u8 q] [] k 0 (u8 (fB q)) []:=(CD q hq).sc rfl k
end
section
attribute [local irreducible] SW RW aG SC ai ak fB
variable (l:List ag) (hl:l.length<1000000000) (hr:∀ x,x∈l->x.aT<256)
include hl hr
set_option maxHeartbeats 8000000 in
theorem oL (o:ag)(ho:o.aT<256)(t:Bool)(ht:∀ k,aG Tryz.prog ref17_target.f [ops l,.agg o.cells] [] k 0 (bl t) [])(h0:o.kind=0->t=true):
  Go.Sl.Pure Tryz.prog ref17_Why.f [ops l,.agg o.cells] (i64 (fD l (au l).at_ (au l).made o t)):=by
 have hct:=CB l hl o;have hcd:=wG l hl hr o.aK o;refine ref17_Why.enter (by first | rfl | simp [SV.ok,SV.av]) (by first | rfl | simp [Hp.ok,Ob.ok,SV.ok,SV.av,aB.aj]) (by simp) ?_;dsimp only [ref17_Why.s,Co.M,Co.G,Co.J,Co.H,Co.F,Co.C,Co.Z,Co.b8,Co.ay,Co.bw,Co.i6,Co.T,Co.K,Co.E,Co.P,Co.Q,Co.R,Co.x,Co.W,Co.V,Co.U,Co.O,Co.D,Co.S];refine SW.seq (SW.g0 [0,1,3,4,5,6,9,13,16,26,31,39,48,52] Zm af ?_);refine SW.seq (SW.seq ?_)
 by_cases h8:(o.kind:Int)>8
 .have e:fD l (au l).at_ (au l).made o t=2:=by unfold fD;rw [decide_eq_true h8];rfl
  rw [e];have g:=decide_eq_true h8;(repeat (first | refine SW.seq ?_ | refine SW.block ?_ | refine SW.g0 [0,1,3,4,5,6,9,13,16,26,31,39,48,52] Zm g ?_ | refine SW.skip ?_ | refine SW.exit ?_ | refine SW.ret ?_ | refine SW.an rfl ?_ | refine SW.ah rfl ?_));exact End.mk [] (h4:=⟨rfl,rfl⟩)
 have g8:=decide_eq_false h8;refine SW.g0 [0,1,3,4,5,6,9,13,16,26,31,39,48,52] Zm g8 ?_;refine SW.ah rfl (SW.skip ?_);refine SW.seq (SW.seq ?_);rcases hc:k9 l o with _ | _
 .have e:fD l (au l).at_ (au l).made o t=271:=by unfold fD;rw [g8,hc];rfl
  rw [e];rw [hc] at hct;(repeat (first | refine SW.seq ?_ | refine SW.block ?_ | refine SW.g1 [0,1,3,4,5,6,9,13,16,26,31,39,48,52] Zm af hct ?_ | refine SW.skip ?_ | refine SW.exit ?_ | refine SW.ret ?_ | refine SW.an rfl ?_ | refine SW.ah rfl ?_));exact End.mk [] (h4:=⟨rfl,rfl⟩)
 rw [hc] at hct;refine SW.g1 [0,1,3,4,5,6,9,13,16,26,31,39,48,52] Zm af hct ?_;refine SW.ah rfl (SW.skip ?_);refine SW.seq (SW.seq ?_)
 by_cases lp:o.kind=0
 .have z:((o.kind:Int) == 0)=true:=by rw [lp];rfl
  have e:fD l (au l).at_ (au l).made o t=0:=by
   unfold fD;rw [g8,hc,z,lp,nN,h0 lp];rfl
  rw [e];(repeat (first | refine SW.seq ?_ | refine SW.block ?_ | refine SW.g0 [0,1,3,4,5,6,9,13,16,26,31,39,48,52] Zm z ?_ | refine SW.skip ?_ | refine SW.exit ?_ | refine SW.ret ?_ | refine SW.an rfl ?_ | refine SW.ah rfl ?_));exact End.mk [] (h4:=⟨rfl,rfl⟩)
 have z:((o.kind:Int) == 0)=false:=by simp;exact lp
 refine SW.g0 [0,1,3,4,5,6,9,13,16,26,31,39,48,52] Zm z ?_;refine SW.ah rfl (SW.skip ?_);refine SW.seq ?_;rcases hd:k_ l (au l).at_ o.aK o with _ | _
 .have e:fD l (au l).at_ (au l).made o t=272:=by unfold fD;rw [g8,hc,z,hd];rfl
  rw [e];rw [hd] at hcd;refine SW.g1 [0,1,3,4,5,6,9,13,16,26,31,39,48,52] Zm af hcd ?_;(repeat (first | refine SW.seq ?_ | refine SW.block ?_ | refine SW.g0 [0,1,3,4,5,6,9,13,16,26,31,39,48,52] Zm af ?_ | refine SW.skip ?_ | refine SW.exit ?_ | refine SW.ret ?_ | refine SW.an rfl ?_ | refine SW.ah rfl ?_));exact End.mk [] (h4:=⟨rfl,rfl⟩)
 rw [hd,Iu hd] at hcd;obtain ⟨c,hcr⟩:∃ c,(MM.get (au l).at_ o.aK).getD Cr.zero=c:=⟨_,rfl⟩;rw [hcr] at hcd;refine SW.g1 [0,1,3,4,5,6,9,13,16,26,31,39,48,52] Zm af hcd ?_;refine SW.seq (SW.seq (SW.g0 [0,1,3,4,5,6,9,13,16,26,31,39,48,52] Zm af ?_));refine SW.ah rfl (SW.skip ?_);refine SW.seq (SW.seq ?_);rcases hh:((c.hold:Int) != (o.who:Int)) with _ | _
 rotate_left
 .have e:fD l (au l).at_ (au l).made o t=273:=by unfold fD;rw [g8,hc,z,hd,hcr,hh];rfl
  rw [e];(repeat (first | refine SW.seq ?_ | refine SW.block ?_ | refine SW.g0 [0,1,3,4,5,6,9,13,16,26,31,39,48,52] Zm hh ?_ | refine SW.skip ?_ | refine SW.exit ?_ | refine SW.ret ?_ | refine SW.an rfl ?_ | refine SW.ah rfl ?_));exact End.mk [] (h4:=⟨rfl,rfl⟩)
 refine SW.g0 [0,1,3,4,5,6,9,13,16,26,31,39,48,52] Zm hh ?_;refine SW.ah rfl (SW.skip ?_);refine SW.seq (SW.seq ?_);have hk8:o.kind<=8:=by omega
 obtain ⟨hq1,hq2⟩:=FG (c:=c) lp hk8;have hn:=CE o.kind hk8;obtain ⟨nv,hnv⟩:∃ nv,fB o.kind=nv:=⟨_,rfl⟩;rw [hnv] at hq1 hq2 hn;rcases hb:jV c o.kind with _ | _
 rotate_left
 .have e:fD l (au l).at_ (au l).made o t=274:=by unfold fD;rw [g8,hc,z,hd,hcr,hh,hb];rfl
  rw [e];rw [hb] at hq1;refine SW.g1 [0,1,3,4,5,6,9,13,16,26,31,39,48,52] Zm hq1 hn ?_;(repeat (first | refine SW.seq ?_ | refine SW.block ?_ | refine SW.g0 [0,1,3,4,5,6,9,13,16,26,31,39,48,52] Zm af ?_ | refine SW.skip ?_ | refine SW.exit ?_ | refine SW.ret ?_ | refine SW.an rfl ?_ | refine SW.ah rfl ?_));exact End.mk [] (h4:=⟨rfl,rfl⟩)
 rw [hb] at hq1;refine SW.g1 [0,1,3,4,5,6,9,13,16,26,31,39,48,52] Zm hq1 hn ?_;refine SW.ah rfl (SW.skip ?_);refine SW.seq (SW.seq ?_);have hw:=HQ (by omega) hr o ho;have Ds:=xC l o;rw [<- Ds] at hw;obtain ⟨w,hww⟩:∃ w,sP (au l).at_ (au l).made o=w:=⟨_,rfl⟩;rw [hww] at hw
 by_cases h1:o.kind=1
 .have z1:((o.kind:Int) == 1)=true:=by rw [h1];rfl
  by_cases hw0:w=0
  rotate_left
  .have zw:((w:Int) != 0)=true:=by simp;exact hw0
   have e:fD l (au l).at_ (au l).made o t=275:=by
    unfold fD;rw [g8,hc,z,hd,hcr,hh,hb,hww,decide_eq_true h1,decide_eq_true hw0];rfl
   rw [e];refine SW.g1 [0,1,3,4,5,6,9,13,16,26,31,39,48,52] Zm (Zq z1 zw) hw ?_;(repeat (first | refine SW.seq ?_ | refine SW.block ?_ | refine SW.g0 [0,1,3,4,5,6,9,13,16,26,31,39,48,52] Zm af ?_ | refine SW.skip ?_ | refine SW.exit ?_ | refine SW.ret ?_ | refine SW.an rfl ?_ | refine SW.ah rfl ?_));exact End.mk [] (h4:=⟨rfl,rfl⟩)
  have zw:((w:Int) != 0)=false:=by simp;exact hw0
  have e:fD l (au l).at_ (au l).made o t=if !t then 276 else 0:=by
   unfold fD;rw [g8,hc,z,hd,hcr,hh,hb,hww,decide_eq_true h1,decide_eq_false (λ h=>h hw0)];rfl
  rw [e];refine SW.g1 [0,1,3,4,5,6,9,13,16,26,31,39,48,52] Zm (Zq z1 zw) hw ?_;refine SW.ah rfl (SW.skip ?_);cases t
  ·(repeat (first | refine SW.seq ?_ | refine SW.block ?_ | refine SW.g1 [0,1,3,4,5,6,9,13,16,26,31,39,48,52] Zm af ht ?_ | refine SW.skip ?_ | refine SW.exit ?_ | refine SW.ret ?_ | refine SW.an rfl ?_ | refine SW.ah rfl ?_))
   exact End.mk [] (h4:=⟨rfl,rfl⟩)
  ·(repeat (first | refine SW.seq ?_ | refine SW.block ?_ | refine SW.g1 [0,1,3,4,5,6,9,13,16,26,31,39,48,52] Zm af ht ?_ | refine SW.skip ?_ | refine SW.exit ?_ | refine SW.ret ?_ | refine SW.an rfl ?_ | refine SW.ah rfl ?_))
   exact End.mk [] (h4:=⟨rfl,rfl⟩)
 have z1:((o.kind:Int) == 1)=false:=by simp;omega
 have e:fD l (au l).at_ (au l).made o t=if !t then 276 else 0:=by
  unfold fD;rw [g8,hc,z,hd,hcr,hh,hb,decide_eq_false h1];rfl
 rw [e];refine SW.g0 [0,1,3,4,5,6,9,13,16,26,31,39,48,52] Zm z1 ?_;refine SW.ah rfl (SW.skip ?_);cases t
 ·(repeat (first | refine SW.seq ?_ | refine SW.block ?_ | refine SW.g1 [0,1,3,4,5,6,9,13,16,26,31,39,48,52] Zm af ht ?_ | refine SW.skip ?_ | refine SW.exit ?_ | refine SW.ret ?_ | refine SW.an rfl ?_ | refine SW.ah rfl ?_))
  exact End.mk [] (h4:=⟨rfl,rfl⟩)
 ·(repeat (first | refine SW.seq ?_ | refine SW.block ?_ | refine SW.g1 [0,1,3,4,5,6,9,13,16,26,31,39,48,52] Zm af ht ?_ | refine SW.skip ?_ | refine SW.exit ?_ | refine SW.ret ?_ | refine SW.an rfl ?_ | refine SW.ah rfl ?_))
  exact End.mk [] (h4:=⟨rfl,rfl⟩)
end
end
end Go.Proofs.YtaelhkkjgfobhaaGreat
namespace Go.Proofs.YtaelhkkjgfobhaaGreat
open Go.Sl Go.Proofs
section
theorem Lc {l:List ag}{o:ag}{ab:Bool}(h:o.kind=2):mA l (au l).at_ (au l).made o ab=(k_ l (au l).at_ o.at_ o && ab):=by unfold mA;rw [if_pos h]
theorem Ld {l:List ag}{o:ag}{ab:Bool}(h:o.kind=4\/o.kind=5):mA l (au l).at_ (au l).made o ab=iU l (au l).at_ (au l).made o.at_ o:=by unfold mA;rw [if_neg (by omega),if_pos h]
theorem Le {l:List ag}{o:ag}{ab:Bool}(h:o.kind=6\/o.kind=7):mA l (au l).at_ (au l).made o ab=lU l (au l).at_ (au l).made ⟨o.at_,o.jR⟩ o:=by unfold mA;rw [if_neg (by omega),if_neg (by omega),if_pos h]
theorem Lf {l:List ag}{o:ag}{ab:Bool}(h:o.kind=8):mA l (au l).at_ (au l).made o ab= !(o.cl.any λ c=> !lU l (au l).at_ (au l).made c o):=by unfold mA;rw [if_neg (by omega),if_neg (by omega),if_neg (by omega),if_pos h]
theorem Lg {l:List ag}{o:ag}{ab:Bool}(h:o.kind≠2/\ ¬ (4<=o.kind/\o.kind<=8)):mA l (au l).at_ (au l).made o ab=true:=by unfold mA;rw [if_neg (by omega),if_neg (by omega),if_neg (by omega),if_neg (by omega)]
section
attribute [local irreducible] SW RW aG SC ai ak
variable (l:List ag) (hl:l.length<1000000000) (hr:∀ x,x∈l->x.aT<256)
include hl hr
set_option maxHeartbeats 4000000 in
theorem Iy (o:ag)(h:o.kind≠2/\ ¬ (4<=o.kind/\o.kind<=8)):Go.Sl.Pure Tryz.prog ref17_target.f [ops l,.agg o.cells] (bl true):=by
 have q2:((o.kind:Int) == 2)=false:=by simp;omega
 have q4:((o.kind:Int) == 4)=false:=by simp;omega
 have q5:((o.kind:Int) == 5)=false:=by simp;omega
 have q6:((o.kind:Int) == 6)=false:=by simp;omega
 have q7:((o.kind:Int) == 7)=false:=by simp;omega
 have q8:((o.kind:Int) == 8)=false:=by simp;omega
 refine ref17_target.enter (by first | rfl | simp [SV.ok,SV.av]) (by first | rfl | simp [Hp.ok,Ob.ok,SV.ok,SV.av,aB.aj]) (by simp) ?_;dsimp only [ref17_target.s,Co.M,Co.G,Co.J,Co.H,Co.F,Co.C,Co.Z,Co.B,Co.b8,Co.ay,Co.bw,Co.i6,Co.T,Co.K,Co.E,Co.L,Co.R,Co.x,Co.W,Co.Y,Co.V,Co.U,Co.O,Co.D,Co.I,Co.S];(repeat (first | refine SW.seq ?_ | refine SW.block ?_ | refine SW.g0 [0,1,3,4,6,7,9,10,29,45,55,61,79] Zm (Zq q2 (Zq q4 (Zq q5 (Zq q6 (Zq q7 q8))))) ?_ | refine SW.skip ?_ | refine SW.exit ?_ | refine SW.ret ?_ | refine SW.an rfl ?_ | refine SW.ah rfl ?_));exact End.mk [] (h4:=⟨rfl,rfl⟩)
theorem BE (o:ag)(ho:o.aT<256)(h:o.kind≠2/\ ¬ (4<=o.kind/\o.kind<=8))(k:Nat):aG Tryz.prog ref17_Why.f [ops l,.agg o.cells] [] k 0 (i64 (eW l o)) []:=by
 have:=(oL l hl hr o ho true (λ k=>(Iy l hl hr o h).sc rfl k) (λ _=>rfl)).sc rfl k;unfold eW qn;rw [Lg h];exact this
set_option maxHeartbeats 4000000 in
theorem CF (d c:Dt):Go.Sl.Pure Tryz.prog ref17_Line.f [ops l,.agg d.cells,.agg c.cells] (bl (oJ l d c)):=by
 have hf:=oK l hl d;unfold oJ;refine ref17_Line.enter (by first | rfl | simp [SV.ok,SV.av]) (by first | rfl | simp [Hp.ok,Ob.ok,SV.ok,SV.av,aB.aj]) (by simp) ?_;dsimp only [ref17_Line.s,Co.M,Co.G,Co.J,Co.H,Co.F,Co.C,Co.Z,Co.B,Co.b8,Co.bD,Co.K,Co.E,Co.Q,Co.x,Co.W,Co.U,Co.S];cases hh:aF l d with
 | none=>
  rw [hh] at hf;(repeat (first | refine SW.seq ?_ | refine SW.block ?_ | refine SW.g1 [0,1,2,4,5,6,7,8] Zm af hf ?_ | refine SW.skip ?_ | refine SW.exit ?_ | refine SW.ret ?_ | refine SW.an rfl ?_ | refine SW.ah rfl ?_));exact End.mk [] (h4:=⟨rfl,rfl⟩)
 | some a=>
  rw [hh,bz hh] at hf;dsimp only
  by_cases h3:a.kind=3
  rotate_left
  .have z:((a.kind:Int) == 3)=false:=by simp;omega
   rw [decide_eq_false h3];(repeat (first | refine SW.seq ?_ | refine SW.block ?_ | refine SW.g1 [0,1,2,4,5,6,7,8] Zm z hf ?_ | refine SW.skip ?_ | refine SW.exit ?_ | refine SW.ret ?_ | refine SW.an rfl ?_ | refine SW.ah rfl ?_));exact End.mk [] (h4:=⟨rfl,rfl⟩)
  have z:((a.kind:Int) == 3)=true:=by rw [h3];rfl
  rw [decide_eq_true h3];have hw:=BE l hl hr a (hr a (eS hh).1) (by omega);obtain ⟨w,hww⟩:∃ w,eW l a=w:=⟨_,rfl⟩;rw [hww] at hw ⊢;have hz:((w:Int) == 0)=decide (w=0):=by rw [Bool.eq_iff_iff];simp
  rcases h2:decide (a.aH=c) with _ | _
  ·(repeat (first | refine SW.seq ?_ | refine SW.block ?_ | refine SW.g2 [0,1,2,4,5,6,7,8] Zm (Zq z h2) hf hw ?_ | refine SW.skip ?_ | refine SW.exit ?_ | refine SW.ret ?_ | refine SW.an rfl ?_ | refine SW.ah rfl ?_))
   exact End.mk [] (h4:=⟨rfl,rfl⟩)
  ·(repeat (first | refine SW.seq ?_ | refine SW.block ?_ | refine SW.g2 [0,1,2,4,5,6,7,8] Zm (Zq z (Zq h2 hz)) hf hw ?_ | refine SW.skip ?_ | refine SW.exit ?_ | refine SW.ret ?_ | refine SW.an rfl ?_ | refine SW.ah rfl ?_))
   exact End.mk [] (h4:=⟨by simp only [Bool.true_and];rfl,rfl⟩)
theorem wI (d c:Dt)(k:Nat):aG Tryz.prog ref17_Line.f [ops l,.agg d.cells,.agg c.cells] [] k 0 (bl (oJ l d c)) []:=(CF l hl hr d c).sc rfl k
set_option maxHeartbeats 4000000 in
theorem Iz (o:ag)(h:o.kind=4\/o.kind=5):Go.Sl.Pure Tryz.prog ref17_target.f [ops l,.agg o.cells] (bl (iU l (au l).at_ (au l).made o.at_ o)):=by
 have hL:=wI l hl hr o.at_ o.aH;have hb:=xH l hl o.at_ o;rw [zh];obtain ⟨x,hx⟩:∃ x,oJ l o.at_ o.aH=x:=⟨_,rfl⟩;obtain ⟨y,hy⟩:∃ y,iV l o.at_ o=y:=⟨_,rfl⟩;rw [hx] at hL ⊢;rw [hy] at hb ⊢;have q2:((o.kind:Int) == 2)=false:=by simp;omega
 refine ref17_target.enter (by first | rfl | simp [SV.ok,SV.av]) (by first | rfl | simp [Hp.ok,Ob.ok,SV.ok,SV.av,aB.aj]) (by simp) ?_;dsimp only [ref17_target.s,Co.M,Co.G,Co.J,Co.H,Co.F,Co.C,Co.Z,Co.B,Co.b8,Co.ay,Co.bw,Co.i6,Co.T,Co.K,Co.E,Co.L,Co.R,Co.x,Co.W,Co.Y,Co.V,Co.U,Co.O,Co.D,Co.I,Co.S]
 by_cases h4:o.kind=4
 .have q4:((o.kind:Int) == 4)=true:=by rw [h4];rfl
  cases x
  ·(repeat (first | refine SW.seq ?_ | refine SW.block ?_ | refine SW.g2 [0,1,3,4,6,7,9,10,29,45,55,61,79] Zm (Zq q2 q4) hL hb ?_ | refine SW.skip ?_ | refine SW.exit ?_ | refine SW.ret ?_ | refine SW.an rfl ?_ | refine SW.ah rfl ?_))
   exact End.mk [] (h4:=⟨rfl,rfl⟩)
  ·(repeat (first | refine SW.seq ?_ | refine SW.block ?_ | refine SW.g2 [0,1,3,4,6,7,9,10,29,45,55,61,79] Zm (Zq q2 q4) hL hb ?_ | refine SW.skip ?_ | refine SW.exit ?_ | refine SW.ret ?_ | refine SW.an rfl ?_ | refine SW.ah rfl ?_))
   exact End.mk [] (h4:=⟨by simp only [Bool.true_and];rfl,rfl⟩)
 .have q4:((o.kind:Int) == 4)=false:=by simp;omega
  have q5:((o.kind:Int) == 5)=true:=by rw [h.resolve_left h4];rfl
  cases x
  ·(repeat (first | refine SW.seq ?_ | refine SW.block ?_ | refine SW.g2 [0,1,3,4,6,7,9,10,29,45,55,61,79] Zm (Zq q2 (Zq q4 q5)) hL hb ?_ | refine SW.skip ?_ | refine SW.exit ?_ | refine SW.ret ?_ | refine SW.an rfl ?_ | refine SW.ah rfl ?_))
   exact End.mk [] (h4:=⟨rfl,rfl⟩)
  ·(repeat (first | refine SW.seq ?_ | refine SW.block ?_ | refine SW.g2 [0,1,3,4,6,7,9,10,29,45,55,61,79] Zm (Zq q2 (Zq q4 q5)) hL hb ?_ | refine SW.skip ?_ | refine SW.exit ?_ | refine SW.ret ?_ | refine SW.an rfl ?_ | refine SW.ah rfl ?_))
   exact End.mk [] (h4:=⟨by simp only [Bool.true_and];rfl,rfl⟩)
theorem zi (o:ag)(ho:o.aT<256)(h:o.kind=4\/o.kind=5)(k:Nat):aG Tryz.prog ref17_Why.f [ops l,.agg o.cells] [] k 0 (i64 (eW l o)) []:=by
 have:=(oL l hl hr o ho _ (λ k=>(Iz l hl hr o h).sc rfl k) (λ h0=>by omega)).sc rfl k;unfold eW qn;rw [Ld h];exact this
set_option maxHeartbeats 4000000 in
theorem CG (d v:Dt)(o:ag):Go.Sl.Pure Tryz.prog ref17_version.f [ops l,.agg d.cells,.agg v.cells,.agg o.cells] (bl (lU l (au l).at_ (au l).made ⟨d,v⟩ o)):=by
 have hL:=wI l hl hr d o.aH;have hb:=xH l hl d o;have hv:=xH l hl v o;have hf:=oK l hl v;rw [Iw];dsimp only;obtain ⟨x,hx⟩:∃ x,oJ l d o.aH=x:=⟨_,rfl⟩;obtain ⟨y,hy⟩:∃ y,iV l d o=y:=⟨_,rfl⟩;rw [hx] at hL ⊢;rw [hy] at hb ⊢;refine ref17_version.enter (by first | rfl | simp [SV.ok,SV.av]) (by first | rfl | simp [Hp.ok,Ob.ok,SV.ok,SV.av,aB.aj]) (by simp) ?_;dsimp only [ref17_version.s,Co.M,Co.G,Co.J,Co.H,Co.F,Co.C,Co.Z,Co.B,Co.b8,Co.bD,Co.K,Co.E,Co.Q,Co.R,Co.x,Co.W,Co.U,Co.O,Co.D,Co.S];refine SW.seq (SW.g0 [0,1,2,3,5,6,7,8,9,10,23,26] Zm af ?_);refine SW.seq (SW.seq ?_);cases x
 .refine SW.g2 [0,1,2,3,5,6,7,8,9,10,23,26] Zm af hL hb ?_
  (repeat (first | refine SW.seq ?_ | refine SW.block ?_ | refine SW.g0 [0,1,2,3,5,6,7,8,9,10,23,26] Zm af ?_ | refine SW.skip ?_ | refine SW.exit ?_ | refine SW.ret ?_ | refine SW.an rfl ?_ | refine SW.ah rfl ?_));exact End.mk [] (h4:=⟨rfl,rfl⟩)
 cases y
 .refine SW.g2 [0,1,2,3,5,6,7,8,9,10,23,26] Zm af hL hb ?_
  (repeat (first | refine SW.seq ?_ | refine SW.block ?_ | refine SW.g0 [0,1,2,3,5,6,7,8,9,10,23,26] Zm af ?_ | refine SW.skip ?_ | refine SW.exit ?_ | refine SW.ret ?_ | refine SW.an rfl ?_ | refine SW.ah rfl ?_));exact End.mk [] (h4:=⟨rfl,rfl⟩)
 refine SW.g2 [0,1,2,3,5,6,7,8,9,10,23,26] Zm af hL hb ?_;refine SW.ah rfl (SW.skip ?_);refine SW.seq (SW.seq ?_);rcases e1:decide (v=d) with _ | _
 rotate_left
 ·(repeat (first | refine SW.seq ?_ | refine SW.block ?_ | refine SW.g0 [0,1,2,3,5,6,7,8,9,10,23,26] Zm e1 ?_ | refine SW.skip ?_ | refine SW.exit ?_ | refine SW.ret ?_ | refine SW.an rfl ?_ | refine SW.ah rfl ?_))
  exact End.mk [] (h4:=⟨rfl,rfl⟩)
 refine SW.g0 [0,1,2,3,5,6,7,8,9,10,23,26] Zm e1 ?_;refine SW.ah rfl (SW.skip ?_);cases hh:aF l v with
 | none=>
  rw [hh] at hf;(repeat (first | refine SW.seq ?_ | refine SW.block ?_ | refine SW.g1 [0,1,2,3,5,6,7,8,9,10,23,26] Zm af hf ?_ | refine SW.skip ?_ | refine SW.exit ?_ | refine SW.ret ?_ | refine SW.an rfl ?_ | refine SW.ah rfl ?_));exact End.mk [] (h4:=⟨rfl,rfl⟩)
 | some s=>
  rw [hh,bz hh] at hf;dsimp only
  by_cases h4:s.kind=4
  rotate_left
  .have z:((s.kind:Int) == 4)=false:=by simp;omega
   rw [decide_eq_false h4];(repeat (first | refine SW.seq ?_ | refine SW.block ?_ | refine SW.g1 [0,1,2,3,5,6,7,8,9,10,23,26] Zm z hf ?_ | refine SW.skip ?_ | refine SW.exit ?_ | refine SW.ret ?_ | refine SW.an rfl ?_ | refine SW.ah rfl ?_));exact End.mk [] (h4:=⟨rfl,rfl⟩)
  have z:((s.kind:Int) == 4)=true:=by rw [h4];rfl
  rw [decide_eq_true h4];have hw:=zi l hl hr s (hr s (eS hh).1) (.inl h4);obtain ⟨w,hww⟩:∃ w,eW l s=w:=⟨_,rfl⟩;rw [hww] at hw ⊢;have hz:((w:Int) == 0)=decide (w=0):=by rw [Bool.eq_iff_iff];simp
  obtain ⟨u,hu⟩:∃ u,iV l v o=u:=⟨_,rfl⟩;rw [hu] at hv ⊢;rcases h2:decide (s.at_=d) with _ | _
  ·(repeat (first | refine SW.seq ?_ | refine SW.block ?_ | refine SW.g4 [0,1,2,3,5,6,7,8,9,10,23,26] Zm (Zq z h2) hf hv hw trivial ?_ | refine SW.skip ?_ | refine SW.exit ?_ | refine SW.ret ?_ | refine SW.an rfl ?_ | refine SW.ah rfl ?_))
   exact End.mk [] (h4:=⟨rfl,rfl⟩)
  cases u
  ·(repeat (first | refine SW.seq ?_ | refine SW.block ?_ | refine SW.g4 [0,1,2,3,5,6,7,8,9,10,23,26] Zm (Zq z h2) hf hv hw trivial ?_ | refine SW.skip ?_ | refine SW.exit ?_ | refine SW.ret ?_ | refine SW.an rfl ?_ | refine SW.ah rfl ?_))
   exact End.mk [] (h4:=⟨rfl,rfl⟩)
  ·(repeat (first | refine SW.seq ?_ | refine SW.block ?_ | refine SW.g4 [0,1,2,3,5,6,7,8,9,10,23,26] Zm (Zq z (Zq h2 hz)) hf hv hw trivial ?_ | refine SW.skip ?_ | refine SW.exit ?_ | refine SW.ret ?_ | refine SW.an rfl ?_ | refine SW.ah rfl ?_))
   exact End.mk [] (h4:=⟨by simp only [Bool.true_and,Bool.false_or];rfl,rfl⟩)
theorem wJ (d v:Dt)(o:ag)(k:Nat):aG Tryz.prog ref17_version.f [ops l,.agg d.cells,.agg v.cells,.agg o.cells] [] k 0 (bl (lU l (au l).at_ (au l).made ⟨d,v⟩ o)) []:=(CG l hl hr d v o).sc rfl k
end
end
section
theorem xI {l:List Cm}{i:Nat}{x:Cm}(h:l[i]? =some x):List.take 2 (List.drop (i*4) (List.map SV.d (l.flatMap Cm.ds)))=x.line.cells:=by
 have:=tC h;rw [<- x.s0,<- this,List.take_take];rfl
theorem AD {l:List Cm}{i:Nat}{x:Cm}(h:l[i]? =some x):List.take 2 (List.drop (i*4+2) (List.map SV.d (l.flatMap Cm.ds)))=x.jR.cells:=by
 have:=tC h;rw [<- x.s2,<- this,List.drop_take,List.take_take,List.drop_drop];rfl
theorem zj {l:List Cm}{i:Nat}{x:Cm}(h:l[i]? =some x):(i*4+2<=(List.map SV.d (l.flatMap Cm.ds)).length)=True:=eq_true (by
 have:=of_eq_true (pn h);omega)
theorem zk {l:List Cm}{i:Nat}{x:Cm}(h:l[i]? =some x):(i*4+2+2<=(List.map SV.d (l.flatMap Cm.ds)).length)=True:=eq_true (by
 have:=of_eq_true (pn h);omega)
section
attribute [local irreducible] SW RW aG SC ai ak
variable (l:List ag) (hl:l.length<1000000000) (hr:∀ x,x∈l->x.aT<256)
include hl hr
set_option maxHeartbeats 4000000 in
theorem IA (o:ag)(h:o.kind=6\/o.kind=7):Go.Sl.Pure Tryz.prog ref17_target.f [ops l,.agg o.cells] (bl (lU l (au l).at_ (au l).made ⟨o.at_,o.jR⟩ o)):=by
 have hv:=wJ l hl hr o.at_ o.jR o;obtain ⟨x,hx⟩:∃ x,lU l (au l).at_ (au l).made ⟨o.at_,o.jR⟩ o=x:=⟨_,rfl⟩;rw [hx] at hv ⊢;have q2:((o.kind:Int) == 2)=false:=by simp;omega
 have q4:((o.kind:Int) == 4)=false:=by simp;omega
 have q5:((o.kind:Int) == 5)=false:=by simp;omega
 refine ref17_target.enter (by first | rfl | simp [SV.ok,SV.av]) (by first | rfl | simp [Hp.ok,Ob.ok,SV.ok,SV.av,aB.aj]) (by simp) ?_;dsimp only [ref17_target.s,Co.M,Co.G,Co.J,Co.H,Co.F,Co.C,Co.Z,Co.B,Co.b8,Co.ay,Co.bw,Co.i6,Co.T,Co.K,Co.E,Co.L,Co.R,Co.x,Co.W,Co.Y,Co.V,Co.U,Co.O,Co.D,Co.I,Co.S]
 by_cases h6:o.kind=6
 .have q6:((o.kind:Int) == 6)=true:=by rw [h6];rfl
  (repeat (first | refine SW.seq ?_ | refine SW.block ?_ | refine SW.g1 [0,1,3,4,6,7,9,10,29,45,55,61,79] Zm (Zq q2 (Zq q4 (Zq q5 q6))) hv ?_ | refine SW.skip ?_ | refine SW.exit ?_ | refine SW.ret ?_ | refine SW.an rfl ?_ | refine SW.ah rfl ?_));exact End.mk [] (h4:=⟨rfl,rfl⟩)
 .have q6:((o.kind:Int) == 6)=false:=by simp;omega
  have q7:((o.kind:Int) == 7)=true:=by rw [h.resolve_left h6];rfl
  (repeat (first | refine SW.seq ?_ | refine SW.block ?_ | refine SW.g1 [0,1,3,4,6,7,9,10,29,45,55,61,79] Zm (Zq q2 (Zq q4 (Zq q5 (Zq q6 q7)))) hv ?_ | refine SW.skip ?_ | refine SW.exit ?_ | refine SW.ret ?_ | refine SW.an rfl ?_ | refine SW.ah rfl ?_));exact End.mk [] (h4:=⟨rfl,rfl⟩)
set_option maxHeartbeats 4000000 in
theorem IB (o:ag)(h:o.kind=2):Go.Sl.Pure Tryz.prog ref17_target.f [ops l,.agg o.cells] (bl (k_ l (au l).at_ o.at_ o && eU (au l).at_ o.aK o.at_ (kZ (au l).at_ o.at_))):=by
 have hc:=wG l hl hr o.at_ o;obtain ⟨L,hL,hlen,_⟩:=(dg l).r8 o.at_;have ha:=Cy (by omega) hr (dg l) o.aK o.at_ L hL (by omega);rw [fm hL];obtain ⟨x,hx⟩:∃ x,k_ l (au l).at_ o.at_ o=x:=⟨_,rfl⟩;obtain ⟨y,hy⟩:∃ y,eU (au l).at_ o.aK o.at_ L=y:=⟨_,rfl⟩;obtain ⟨c,hcc⟩:∃ c,(bC l 10 o.at_).1=c:=⟨_,rfl⟩;rw [hx,hcc] at hc;rw [hx,hy];rw [hy] at ha;have q2:((o.kind:Int) == 2)=true:=by rw [h];rfl
 refine ref17_target.enter (by first | rfl | simp [SV.ok,SV.av]) (by first | rfl | simp [Hp.ok,Ob.ok,SV.ok,SV.av,aB.aj]) (by simp) ?_;dsimp only [ref17_target.s,Co.M,Co.G,Co.J,Co.H,Co.F,Co.C,Co.Z,Co.B,Co.b8,Co.ay,Co.bw,Co.i6,Co.T,Co.K,Co.E,Co.L,Co.R,Co.x,Co.W,Co.Y,Co.V,Co.U,Co.O,Co.D,Co.I,Co.S];cases x
 ·(repeat (first | refine SW.seq ?_ | refine SW.block ?_ | refine SW.g2 [0,1,3,4,6,7,9,10,29,45,55,61,79] Zm q2 hc ha ?_ | refine SW.skip ?_ | refine SW.exit ?_ | refine SW.ret ?_ | refine SW.an rfl ?_ | refine SW.ah rfl ?_))
  exact End.mk [] (h4:=⟨rfl,rfl⟩)
 ·(repeat (first | refine SW.seq ?_ | refine SW.block ?_ | refine SW.g2 [0,1,3,4,6,7,9,10,29,45,55,61,79] Zm q2 hc ha ?_ | refine SW.skip ?_ | refine SW.exit ?_ | refine SW.ret ?_ | refine SW.an rfl ?_ | refine SW.ah rfl ?_))
  exact End.mk [] (h4:=⟨by simp only [Bool.true_and];rfl,rfl⟩)
set_option maxHeartbeats 4000000 in
theorem IC (o:ag)(h:o.kind=8)(xz:o.nT):Go.Sl.Pure Tryz.prog ref17_target.f [ops l,.agg o.cells] (bl (!(o.cl.any λ c=> !lU l (au l).at_ (au l).made c o))):=by
 have q2:((o.kind:Int) == 2)=false:=by simp;omega
 have q4:((o.kind:Int) == 4)=false:=by simp;omega
 have q5:((o.kind:Int) == 5)=false:=by simp;omega
 have q6:((o.kind:Int) == 6)=false:=by simp;omega
 have q7:((o.kind:Int) == 7)=false:=by simp;omega
 have q8:((o.kind:Int) == 8)=true:=by rw [h];rfl
 have hle:=xz.eq;have hll:=xz.le;refine ref17_target.enter (by first | rfl | simp [SV.ok,SV.av]) (by first | rfl | simp [Hp.ok,Ob.ok,SV.ok,SV.av,aB.aj]) (by simp) ?_;dsimp only [ref17_target.s,Co.M,Co.G,Co.J,Co.H,Co.F,Co.C,Co.Z,Co.B,Co.b8,Co.ay,Co.bw,Co.i6,Co.T,Co.K,Co.E,Co.L,Co.R,Co.x,Co.W,Co.Y,Co.V,Co.U,Co.O,Co.D,Co.I,Co.S];(repeat (first | refine SW.seq ?_ | refine SW.block ?_ | refine SW.g0 [0,1,3,4,6,7,9,10,29,45,55,61,79] Zm (Zq q2 (Zq q4 (Zq q5 (Zq q6 (Zq q7 q8))))) ?_ | refine SW.skip ?_ | refine SW.exit ?_ | refine SW.ret ?_ | refine SW.an rfl ?_ | refine SW.ah rfl ?_));refine SW.qO (α:={j:Nat // j<=o.cl.length/\∀ c,c∈o.cl.take j->lU l (au l).at_ (au l).made c o=true}) (λ j=>⟨[(7,i64 j.1),(3,.ptr 0 0),(0,ops l)],[(0,.box 43 o.cells)],1⟩) (λ j=>o.cl.length - j.1) ⟨0,by omega,by simp⟩ id af (round:= ?_);rintro ⟨j,hj,hall⟩;dsimp only;refine SW.seq (SW.seq ?_)
 by_cases hjl:j<o.cl.length
 .have j1:decide ((j:Int)<o.cl.length)=true:=by simp only [decide_eq_true_eq];omega
  obtain ⟨y,hy⟩:=br hjl;have j2:IntKind.i64.wrap ((j:Int)+1)=((j+1:Nat):Int):=wrap_i64 _ (by omega);have hv:=wJ l hl hr y.line y.jR o;refine SW.g0 [0,1,3,4,6,7,9,10,29,45,55,61,79] Zm (Zq hle j1) ?_;refine SW.an rfl (SW.skip ?_);refine SW.seq (SW.block (SW.seq ?_));rcases hc:lU l (au l).at_ (au l).made y o with _ | _
  .rw [show (⟨y.line,y.jR⟩:Cm)=y from rfl,hc] at hv
   refine SW.g1 [0,1,3,4,6,7,9,10,29,45,55,61,79] Zm (Zq hle (Zq (xI hy) (Zq (zj hy) (Zq (AD hy) (zk hy))))) hv ?_;have e:(o.cl.any λ c=> !lU l (au l).at_ (au l).made c o)=true:=by
    rw [List.any_eq_true];exact ⟨y,List.mem_of_getElem? hy,by rw [hc];rfl⟩
   rw [e];(repeat (first | refine SW.seq ?_ | refine SW.block ?_ | refine SW.g0 [0,1,3,4,6,7,9,10,29,45,55,61,79] Zm af ?_ | refine SW.skip ?_ | refine SW.exit ?_ | refine SW.ret ?_ | refine SW.an rfl ?_ | refine SW.ah rfl ?_));exact End.mk [] (h4:=⟨rfl,rfl⟩)
  .rw [show (⟨y.line,y.jR⟩:Cm)=y from rfl,hc] at hv
   refine SW.g1 [0,1,3,4,6,7,9,10,29,45,55,61,79] Zm (Zq hle (Zq (xI hy) (Zq (zj hy) (Zq (AD hy) (zk hy))))) hv ?_;refine SW.ah rfl (SW.skip ?_);refine SW.g0 [0,1,3,4,6,7,9,10,29,45,55,61,79] Zm j2 ?_;dsimp only;exact ⟨⟨j+1,by omega,λ c xW=>by
    rw [dG hy] at xW;rcases List.mem_append.1 xW with xW | xW
    .exact hall c xW
    .rw [List.mem_singleton.1 xW];exact hc⟩,id,by show o.cl.length - (j+1)<_;omega,aQ.mk af⟩
 .have j1:decide ((j:Int)<o.cl.length)=false:=by simp only [decide_eq_false_iff_not];omega
  have e:(o.cl.any λ c=> !lU l (au l).at_ (au l).made c o)=false:=by
   rw [List.any_eq_false];intro c hc;rw [hall c (by rw [List.take_of_length_le (by omega)];exact hc)];simp
  rw [e];refine SW.g0 [0,1,3,4,6,7,9,10,29,45,55,61,79] Zm (Zq hle j1) ?_;refine SW.ah rfl (SW.exit ?_);(repeat (first | refine SW.seq ?_ | refine SW.block ?_ | refine SW.g0 [0,1,3,4,6,7,9,10,29,45,55,61,79] Zm af ?_ | refine SW.skip ?_ | refine SW.exit ?_ | refine SW.ret ?_ | refine SW.an rfl ?_ | refine SW.ah rfl ?_));exact End.mk [] (h4:=⟨rfl,rfl⟩)
theorem FJ (o:ag)(ho:o.aT<256)(xz:o.nT)(k:Nat):aG Tryz.prog ref17_Why.f [ops l,.agg o.cells] [] k 0 (i64 (eW l o)) []:=by
 by_cases hn:o.kind≠2/\ ¬ (4<=o.kind/\o.kind<=8)
 .exact BE l hl hr o ho hn k
 by_cases h4:o.kind=4\/o.kind=5
 .exact zi l hl hr o ho h4 k
 by_cases h2:o.kind=2
 .have:=(oL l hl hr o ho _ (λ k=>(IB l hl hr o h2).sc rfl k) (λ h0=>by omega)).sc rfl k
  unfold eW qn;rw [Lc h2];exact this
 by_cases h6:o.kind=6\/o.kind=7
 .have:=(oL l hl hr o ho _ (λ k=>(IA l hl hr o h6).sc rfl k) (λ h0=>by omega)).sc rfl k
  unfold eW qn;rw [Le h6];exact this
 have h8:o.kind=8:=by omega
 have:=(oL l hl hr o ho _ (λ k=>(IC l hl hr o h8 xz).sc rfl k) (λ h0=>by omega)).sc rfl k;unfold eW qn;rw [Lf h8];exact this
end
end
section
section
attribute [local irreducible] SW RW aG SC ai ak
variable (l:List ag) (hl:l.length<=80) (hd:∀ x,x∈l->x.aT<256/\x.nT/\x.dot.wf)
include hl hd
set_option maxHeartbeats 4000000 in
theorem CH (d:Dt):Go.Sl.Pure Tryz.prog ref17_Good.f [ops l,.agg d.cells] (bl (match aF l d with
  | some o=>decide (eW l o=0)
  | none=>false)):=by
 have hf:=oK l (by omega) d;refine ref17_Good.enter (by first | rfl | simp [SV.ok,SV.av]) (by first | rfl | simp [Hp.ok,Ob.ok,SV.ok,SV.av,aB.aj]) (by simp) ?_;dsimp only [ref17_Good.s,Co.M,Co.G,Co.J,Co.H,Co.F,Co.C,Co.Z,Co.B,Co.bD,Co.K,Co.E,Co.Q,Co.x,Co.W,Co.U,Co.S];cases hh:aF l d with
 | none=>
  rw [hh] at hf;(repeat (first | refine SW.seq ?_ | refine SW.block ?_ | refine SW.g1 [0,1,3,4,5,6] Zm af hf ?_ | refine SW.skip ?_ | refine SW.exit ?_ | refine SW.ret ?_ | refine SW.an rfl ?_ | refine SW.ah rfl ?_));exact End.mk [] (h4:=⟨rfl,rfl⟩)
 | some o=>
  rw [hh,bz hh] at hf;have ho:=hd o (eS hh).1;have hw:=FJ l (by omega) (λ x hx=>(hd x hx).1) o ho.1 ho.2.1;dsimp only;obtain ⟨w,hww⟩:∃ w,eW l o=w:=⟨_,rfl⟩;rw [hww] at hw ⊢;have hz:((w:Int) == 0)=decide (w=0):=by rw [Bool.eq_iff_iff];simp
  (repeat (first | refine SW.seq ?_ | refine SW.block ?_ | refine SW.g2 [0,1,3,4,5,6] Zm hz hf hw ?_ | refine SW.skip ?_ | refine SW.exit ?_ | refine SW.ret ?_ | refine SW.an rfl ?_ | refine SW.ah rfl ?_));exact End.mk [] (h4:=⟨rfl,rfl⟩)
theorem CI (d:Dt)(k:Nat):aG Tryz.prog ref17_Good.f [ops l,.agg d.cells] [] k 0 (bl (match aF l d with
  | some o=>decide (eW l o=0)
  | none=>false)) []:=(CH l hl hd d).sc rfl k
end
end
end Go.Proofs.YtaelhkkjgfobhaaGreat
namespace Go.Proofs.YtaelhkkjgfobhaaGreat
open Go.Sl Go.Proofs
section
attribute [local irreducible] SW RW aG SC ai ak
structure FK {σ:Type}(Fh:σ->Hp)(Step:σ->Dt->σ->Prop)(go:σ->Bool)(aU b m k:Nat)(L:(MM Dt ag))(s0 s:σ)(xs:(MM Dt ag))(kk:Nat):Prop where
 p1:lz Step s0 (MM.keys xs) s
 p2:go s=true
 p3:∀ x,x∈xs->x∈L
 p4:(xs.map (·.1)).Nodup
 p5:k+1<=kk
 p6:kk<=k+1+xs.length*(1+aU)
 p7:(Fh s).ok (λ n=>decide (n<kk))=true
 p8:lk (Fh s) b=none
 p9:lk (Fh s) m=none
 Cs:lk (Fh s) k=none
set_option maxHeartbeats 1000000 in
theorem CJ {σ:Type}{Fh:σ->Hp}{Step:σ->Dt->σ->Prop}{go:σ->Bool}{aU y b m k c:Nat}{L:(MM Dt ag)}(hwf:MM.wf L c)(s0:σ)(hy:o6 Tryz.prog y (λ x:Dt=> .agg x.cells) aU Fh Step go s0 L.length)(h0:(Fh s0).ok (λ n=>decide (n<k))=true)
  (hb:b<k) (hm:m<k) (K7:b≠m) (hdb:lk (Fh s0) b=none) (MX:lk (Fh s0) m=none) (vn:go s0=true):
  SB Tryz.prog maps_Keys_map_api_Dot_api_Op_api_Dot_api_Op_1.f [.yl y,.ptr b 0] ((b,.box 107 [.mp m])::(m,.map (aq Dt.cells ov L) c)::Fh s0) k (1+L.length*(1+aU))
   λ r F=>r= .cZ []/\∃ (xs:(MM Dt ag)) (s':σ),lz Step s0 (MM.keys xs) s'/\(∀ x,x∈xs->x∈L)/\(xs.map (·.1)).Nodup/\(go s'=true->∀ x,x∈L->x∈xs)/\(lk (Fh s') b=none/\lk (Fh s') m=none)/\F=(b,.box 107 [.mp m])::(m,.map (aq Dt.cells ov L) c)::Fh s':=by
 have hyk:y<k:=by
  obtain ⟨ob,ho⟩:=Option.ne_none_iff_exists'.1 (hy.uz s0)
  simpa using (Hp.eZ h0 ho).1
 refine maps_Keys_map_api_Dot_api_Op_api_Dot_api_Op_1.enter (by simp [SV.ok,SV.av];omega) (by simp only [Hp.ok,List.all_cons,Ob.ok,SV.av,SV.ok,bB,Bool.and_true,Bool.and_eq_true,decide_eq_true_eq];exact ⟨⟨hb,hm⟩,hm,h0⟩) (by simp) ?_;dsimp only [maps_Keys_map_api_Dot_api_Op_api_Dot_api_Op_1.s,Co.M,Co.J,Co.F,Co.b8,Co.ay,Co.T,Co.K,Co.E,Co.W,Co.O,Co.S];have f1:=bT (show m≠b by omega);have f2:=bT (show k≠b by omega);have f3:=bT (show k≠m by omega);have f4:List.lookup k (Fh s0)=none:=by
  cases hh:lk (Fh s0) k with
  | none=>exact hh
  | some ob=>have:=(Hp.eZ h0 hh).1;simp at this
 refine SW.seq ?_;refine SW.g0 [0,1,3,5,7,13] Zm (Zq f1 (Zq f2 (Zq f3 f4))) ?_;refine SW.block (SW.o7 (es:=λ _=>aq Dt.cells ov L) (c:=λ _=>c) (tv:=λ _=>k) (nm:=λ _=>m) (since:=λ _=>c) (Ah:=λ _=>c)
  (α:={i:σ×(MM Dt ag)×Nat // FK Fh Step go aU b m k L s0 i.1 i.2.1 i.2.2})
  (λ i=>⟨[(5,.it k),(0,.yl y),(1,.ptr b 0)],(k,.iter (some m) c (i.1.2.1.map (·.1)) c)::(b,.box 107 [.mp m])::(m,.map (aq Dt.cells ov L) c)::Fh i.1.1,i.1.2.2⟩)
  (λ i=>gf (aq Dt.cells ov L) (i.1.2.1.map (·.1))) ⟨(s0,[],k+1),⟨.nil,vn,by simp,by simp,by simp,by simp,Hp.bG (by simp) h0,hdb,MX,f4⟩⟩ id (seen:=λ i=>i.1.2.1.map (·.1)) ?_ (λ i=>by simp [List.lookup]) (λ i=>by simp [aa]) (λ i=> ?_) (λ i=>by omega) (λ i e he=> ?_) (λ i=>Nat.le_refl _) (λ i hall=> ?_) (λ i e he hs=> ?_))
 .refine aQ.same (by simp) (by simp [aL,lu,List.lookup,SV.aC,SV.ok];omega) ?_ ?_
  .simp only [Hp.ok,List.all_cons,Ob.ok,SV.av,SV.ok,bB,Bool.and_true,Bool.and_eq_true,decide_eq_true_eq]
   exact ⟨⟨by omega,by omega⟩,⟨by omega,by omega⟩,by omega,Hp.bG (by simp) h0⟩
  .intro x hx
   simp only [List.mem_cons] at hx;rcases hx with rfl | rfl | rfl | hx
   .simp [aa]
   .simp [aa,f1,f2,f3]
   .simp [aa,f1,f2,f3]
   .have:=hy.nd s0 x hx
    have h1:x.1≠k:=λ e=>by rw [e] at this;rw [show lk (Fh s0) k=none from f4] at this;cases this
    have h2:x.1≠b:=λ e=>by rw [e,hdb] at this;cases this
    have h3:x.1≠m:=λ e=>by rw [e,MX] at this;cases this
    simp [aa,h1,h2,h3,this]
 .simp [aa,f1,f2,f3]
 .obtain ⟨x,hx,rfl⟩:=ej he
  exact hwf.old x hx
 .obtain ⟨⟨s,xs,kk⟩,hi⟩:=i
  have hi:FK Fh Step go aU b m k L s0 s xs kk:=hi;have hi':=hi;obtain ⟨p1,p2,p3,p4,p5,p6,p7,p8,p9,Cs⟩:=hi';dsimp only at*;have hsub:xs.length<=L.length:=by
   have:=p4.length_le_of_subset (l₂:=L.map (·.1)) (λ t ht=>by
    obtain ⟨x,hx,rfl⟩:=List.mem_map.1 ht;exact List.mem_map.2 ⟨x,p3 x hx,rfl⟩)
   simpa using this
  have hmul:xs.length*(1+aU)<=L.length*(1+aU):=Nat.mul_le_mul_right _ hsub;have hhp:∀ kx,kk<=kx->Hp.ok (λ n=>decide (n<kx)) ((b,Ob.box 107 [.mp m])::(m,.map (aq Dt.cells ov L) c)::Fh s)=true:=λ kx hkx=>by
   simp only [Hp.ok,List.all_cons,Ob.ok,SV.av,SV.ok,bB,Bool.and_true,Bool.and_eq_true,decide_eq_true_eq];exact ⟨⟨by omega,by omega⟩,by omega,Hp.bG hkx p7⟩
  refine ⟨⟨[],(b,.box 107 [.mp m])::(m,.map (aq Dt.cells ov L) c)::Fh s,k+(1+L.length*(1+aU))⟩,id,aQ.same (Nat.le_add_right _ _) trivial (hhp _ (by show kk<=k+(1+L.length*(1+aU));omega)) ?_,?_⟩
  .intro x hx
   simp only [List.mem_cons] at hx;rcases hx with rfl | rfl | hx
   .simp [aa,f1,f2,f3]
   .simp [aa,f1,f2,f3]
   .have:=hy.nd s x hx
    have h1:x.1≠k:=λ e=>by rw [e,Cs] at this;cases this
    have h2:x.1≠b:=λ e=>by rw [e,p8] at this;cases this
    have h3:x.1≠m:=λ e=>by rw [e,p9] at this;cases this
    simp [aa,h1,h2,h3,this]
  .rw [if_pos rfl]
   refine End.mk ((b,.box 107 [.mp m])::(m,.map (aq Dt.cells ov L) c)::Fh s) (h3:=λ _ _ h=>h) (h4:=⟨rfl,xs,s,p1,p3,p4,λ _ x hx=> ?_,⟨p8,p9⟩,rfl⟩) (h6:=hhp _ (by omega)) (h7:=Nat.le_refl _);have:=hall _ (List.mem_map.2 ⟨x,hx,rfl⟩);simp only [List.contains_iff_mem] at this;obtain ⟨z,hz,e⟩:=List.mem_map.1 this;have:z=x:=MM.qM hwf.times (p3 z hz) hx e;rw [<- this];exact hz
 .obtain ⟨⟨s,xs,kk⟩,hi⟩:=i
  have hi:FK Fh Step go aU b m k L s0 s xs kk:=hi;have hi':=hi;obtain ⟨p1,p2,p3,p4,p5,p6,p7,p8,p9,Cs⟩:=hi';dsimp only at*;obtain ⟨x,hx,rfl⟩:=ej he;dsimp only at hs;have g1:=bT (show kk≠k by omega);have g2:=bT (show kk≠b by omega);have g3:=bT (show kk≠m by omega);have g4:List.lookup kk (Fh s)=none:=Hp.out p7 (Nat.le_refl _);have g5:(xs.map (·.1)++[x.1]).getLast? =some x.1:=by simp
  have g6:=j9 (kc:=Dt.cells) (vs:=ov) hwf.times hx;rw [iS];dsimp only;refine SW.block (SW.seq (SW.g0 [0,1,3,5,7,13] Zm (Zq f1 (Zq f2 (Zq f3 (Zq g1 (Zq g2 (Zq g3 (Zq g4 (Zq g5 g6)))))))) ?_));refine SW.seq (SW.vW ?_);(repeat (first | refine bk.op (Zq g1 (Zq g2 g3)) (h:= ?_) | refine bk.dA (Zq g1 (Zq g2 g3)) (h:= ?_) | refine bk.skip (h:= ?_)));have hokk:(Fh s).ok (λ n=>decide (n<kk+1))=true:=Hp.bG (by omega) p7;have ot:∀ s',(∀ n,lk (Fh s') n≠none->lk (Fh s) n≠none\/(kk+1<=n/\n<kk+1+aU))->lk (Fh s') b=none/\lk (Fh s') m=none/\lk (Fh s') k=none:=λ s' h=>by
   refine ⟨?_,?_,?_⟩
   .exact Classical.byContradiction λ hn=>(h b hn).elim (λ h=>h p8) (λ h=>by omega)
   .exact Classical.byContradiction λ hn=>(h m hn).elim (λ h=>h p9) (λ h=>by omega)
   .exact Classical.byContradiction λ hn=>(h k hn).elim (λ h=>h Cs) (λ h=>by omega)
  have hxs:x∉xs:=λ h=>by
   have:(xs.map (·.1)).contains x.1=true:=by simp only [List.contains_iff_mem];exact List.mem_map.2 ⟨x,h,rfl⟩
   rw [this] at hs;cases hs
  have hxt:x.1∉xs.map (·.1):=λ h=>by
   have:(xs.map (·.1)).contains x.1=true:=by simpa only [List.contains_iff_mem] using h
   rw [this] at hs;cases hs
  have q3:∀ z,z∈xs++[x]->z∈L:=λ z hz=>by
   rcases List.mem_append.1 hz with hz | hz
   .exact p3 z hz
   .rw [List.mem_singleton.1 hz];exact hx
  have q4:((xs++[x]).map (·.1)).Nodup:=by
   rw [List.map_append,List.nodup_append];refine ⟨p4,by simp,λ a ha b' hb'=> ?_⟩;simp only [List.map_cons,List.map_nil,List.mem_singleton] at hb';intro e;exact hxt (by rw [<- hb',<- e];exact ha)
  have hsub2:(xs++[x]).length<=L.length:=by
   have:=q4.length_le_of_subset (l₂:=L.map (·.1)) (λ t ht=>by
    obtain ⟨z,hz,rfl⟩:=List.mem_map.1 ht;exact List.mem_map.2 ⟨z,q3 z hz,rfl⟩)
   simpa using this
  have hlt:(MM.keys xs).length<L.length:=by
   simp only [List.length_append,List.length_singleton] at hsub2;simp only [MM.keys,List.length_map];omega
  have hsub:HSub (Fh s) ((kk,Ob.box 37 x.2.1.cells)::(k,Ob.iter (some m) c (xs.map (·.1)++[x.1]) c)::(b,Ob.box 107 [.mp m])::(m,.map (aq Dt.cells ov L) c)::Fh s):=λ n ob hn=>by
   have h1:n≠k:=λ e=>by rw [e,Cs] at hn;cases hn
   have h2:n≠b:=λ e=>by rw [e,p8] at hn;cases hn
   have h3:n≠m:=λ e=>by rw [e,p9] at hn;cases hn
   have h4:n≠kk:=λ e=>by rw [e,show lk (Fh s) kk=none from g4] at hn;cases hn
   simp [aa,h1,h2,h3,h4,hn]
  refine bk.yield (by simp only [ev,List.lookup,Nat.reduceBEq] <;> rfl) (by simp only [ev,pP,List.lookup,Nat.reduceBEq] <;> rfl) (hy.uz s) (hy.call s _ x.2.1 (kk+1) p1 hlt hokk p2) hsub ?_;rintro v F' ⟨s',hstep,rfl,rfl,hok',hnm⟩;obtain ⟨n1,n2,n3⟩:=ot s' hnm;rw [iL];show bk Tryz.prog 14 k _ ⟨(12,.d (.bool (go s')))::_,_,_⟩ _;(repeat (first | refine bk.op af (h:= ?_) | refine bk.dA af (h:= ?_) | refine bk.skip (h:= ?_)));refine bk.nil ?_;have hlk:=iy (ro:=false) hsub (F':=Fh s') (λ h=>by cases h);have hhp:∀ kx,kk+1+aU<=kx->Hp.ok (λ n=>decide (n<kx)) ((b,Ob.box 107 [.mp m])::(m,.map (aq Dt.cells ov L) c)::Fh s')=true:=λ kx hkx=>by
   simp only [Hp.ok,List.all_cons,Ob.ok,SV.av,SV.ok,bB,Bool.and_true,Bool.and_eq_true,decide_eq_true_eq];exact ⟨⟨by omega,by omega⟩,by omega,Hp.bG hkx hok'⟩
  have hin:∀ z,z∈((b,Ob.box 107 [.mp m])::(m,.map (aq Dt.cells ov L) c)::Fh s')->zL (lk ((kk,Ob.box 37 x.2.1.cells)::(k,Ob.iter (some m) c (xs.map (·.1)++[x.1]) c)::(b,Ob.box 107 [.mp m])::(m,.map (aq Dt.cells ov L) c)::Fh s)) (lk (Fh s)) (lk (Fh s')) z.1=some z.2:=by
   intro z hz;simp only [List.mem_cons] at hz;rcases hz with rfl | rfl | hz
   .rw [dw p8 n1];simp [aa,f1,f2,f3,g1,g2,g3]
   .rw [dw p9 n2];simp [aa,f1,f2,f3,g1,g2,g3]
   .have:=hy.nd s' z hz
    rw [eO (.inr (by rw [this];simp)),this]
  have q1:lz Step s0 (MM.keys (xs++[x])) s':=by
   have:=lz.snoc p1 hstep
   simpa [MM.keys] using this
  have q6:kk+1+aU<=k+1+(xs++[x]).length*(1+aU):=by
   have e:(xs++[x]).length*(1+aU)=xs.length*(1+aU)+(1+aU):=by rw [List.length_append,List.length_singleton,Nat.add_mul,Nat.one_mul]
   rw [e];omega
  have hmul:(xs++[x]).length*(1+aU)<=L.length*(1+aU):=Nat.mul_le_mul_right _ hsub2;cases hg:go s' with
  | true=>
   refine SW.ah (by simp [ev,List.lookup,hg]) (SW.skip ?_);refine ⟨⟨(s',xs++[x],kk+1+aU),q1,hg,q3,q4,by show k+1<=kk+1+aU;omega,q6,hok',n1,n2,n3⟩,id,?_,aQ.same (by show k<=kk+1+aU;omega) (by simp [aL,List.lookup,SV.aC,SV.ok];omega) ?_ ?_⟩
   .have:=j_ he hs
    simpa using this
   .have:=hhp (kk+1+aU) (Nat.le_refl _)
    simp only [Hp.ok,List.all_cons,Ob.ok,Bool.and_eq_true,decide_eq_true_eq] at this ⊢;exact ⟨⟨by omega,by omega⟩,this⟩
   .intro z hz
    rcases List.mem_cons.1 hz with rfl | hz
    .have:lk (bP false ((kk,Ob.box 37 x.2.1.cells)::(k,Ob.iter (some m) c (xs.map (·.1)++[x.1]) c)::(b,Ob.box 107 [.mp m])::(m,.map (aq Dt.cells ov L) c)::Fh s) (Fh s) (Fh s')) k=some (.iter (some m) c (xs.map (·.1)++[x.1]) c):=by
      rw [hlk,dw Cs n3];simp [aa,g1]
     simpa [bP] using this
    .have:lk (bP false ((kk,Ob.box 37 x.2.1.cells)::(k,Ob.iter (some m) c (xs.map (·.1)++[x.1]) c)::(b,Ob.box 107 [.mp m])::(m,.map (aq Dt.cells ov L) c)::Fh s) (Fh s) (Fh s')) z.1=some z.2:=by
      rw [hlk];exact hin z hz
     exact this
  | false=>
   refine SW.an (by simp [ev,List.lookup,hg]) ?_;refine SW.weak id (st1:=⟨[],(b,.box 107 [.mp m])::(m,.map (aq Dt.cells ov L) c)::Fh s',k+(1+L.length*(1+aU))⟩) (aQ.same (Nat.le_add_right _ _) trivial (hhp _ (by show kk+1+aU<=k+(1+L.length*(1+aU));omega)) λ z hz=> ?_) (SW.ret ?_)
   .have:lk (bP false ((kk,Ob.box 37 x.2.1.cells)::(k,Ob.iter (some m) c (xs.map (·.1)++[x.1]) c)::(b,Ob.box 107 [.mp m])::(m,.map (aq Dt.cells ov L) c)::Fh s) (Fh s) (Fh s')) z.1=some z.2:=by
     rw [hlk];exact hin z hz
    exact this
   .refine End.mk ((b,.box 107 [.mp m])::(m,.map (aq Dt.cells ov L) c)::Fh s') (h3:=λ _ _ h=>h) (h4:=⟨rfl,xs++[x],s',q1,q3,q4,λ (h:go s'=true)=>absurd h (by rw [hg];decide),⟨n1,n2⟩,rfl⟩) (h6:=hhp _ (by omega)) (h7:=Nat.le_refl _)
end
section
attribute [local irreducible] SW RW aG SC ai ak
theorem vw {L xs:(MM Dt ag)}{c:Nat}(hwf:MM.wf L c)(h1:∀ x,x∈xs->x∈L)(h2:(xs.map (·.1)).Nodup)(h3:∀ x,x∈L->x∈xs):(MM.keys xs).Perm (MM.keys L):=
 ((List.perm_ext_iff_of_nodup (ja _ h2) (ja _ hwf.times)).2 λ a=>⟨h1 a,h3 a⟩).map _
def fE (b m:Nat)(L:(MM Dt ag))(c:Nat):Hp:=[(b,.box 107 [.mp m]),(m,.map (aq Dt.cells ov L) c)]
set_option maxHeartbeats 1000000 in
theorem vz {L:(MM Dt ag)}{c:Nat}(hwf:MM.wf L c)(hL:L.length<1000000000):
  SB Tryz.prog slices_AppendSeq_Lapi_Dot_api_Dot.f [.d .aN,.fn (.func maps_Keys_map_api_Dot_api_Op_api_Dot_api_Op_1.f) [] [.ptr 0 0]] (fE 0 1 L c) 2 1
   λ r F=>r= .gs 2 L.length/\∃ l:List Dt,l.Perm (MM.keys L)/\F=(2,.arr 37 2 L.length ((l.flatMap Dt.ds).map .d))::fE 0 1 L c:=by
 refine slices_AppendSeq_Lapi_Dot_api_Dot.enter (by simp [SV.ok,SV.av]) (by simp [fE,Hp.ok,Ob.ok,SV.av,SV.ok,bB]) (by simp) ?_;dsimp only [slices_AppendSeq_Lapi_Dot_api_Dot.s,Co.M,Co.J,Co.F,Co.b8,Co.ay,Co.T,Co.K,Co.x,Co.W,Co.S];refine SW.qd 0 37 2 rfl ?_;simp only [fE];refine SW.seq (SW.g0 [0,1,2,4,5,6,7] Zm af ?_);refine SW.seq (SW.seq (SW.g0 [0,1,2,4,5,6,7] Zm af ?_));refine SW.block (SW.rQ (nk:=1+L.length*(1+2)) [2] [.ptr 3 0] rfl ⟨rfl,trivial⟩ λ ca cb hca hcb=> ?_)
 let s0:Ct 4 3:=⟨[],2,by decide,by decide⟩
 have hy:=uT (y:=4) (bx:=3) (B:=L.length) (by decide) s0 (by simp [s0];omega) hca hcb;have hsb:=CJ (y:=4) (b:=0) (m:=1) (k:=5) hwf s0 hy (by simp [eB,s0,Hp.ok,Ob.ok,SV.av,SV.ok]) (by decide) (by decide) (by decide) (by simp [eB,s0,aa,bt]) (by simp [eB,s0,aa,bt]) rfl;have hsubF:HSub ((0,.box 107 [.mp 1])::(1,.map (aq Dt.cells ov L) c)::eB 4 3 13 [2] [7] ca cb s0) ((4,.pJ 13 [2] [.ptr 3 0] [7] ca cb .ready none)::[(3,.box 31 [.gs 2 0]),(2,.arr 37 2 0 []),(0,.box 107 [.mp 1]),(1,.map (aq Dt.cells ov L) c)]):=by
  intro n ob hn
  match n with
  | 0 | 1 | 2 | 3 | 4=>simpa [eB,s0,aa] using hn
  | n+5=>simp [eB,s0,aa,bt] at hn
 have hsc:=(hsb.here (λ n=>decide (n<5)) (λ n hn=> ?_) (by simp [SV.av,SV.ok]) (by simp [eB,s0,Hp.ok,Ob.ok,SV.av,SV.ok,bB]) ?_).frame hsubF
 .refine hsc.mono ?_
  rintro r F' ⟨F1,⟨rfl,xs,s',hon,hin,ot,hall,⟨hn0,hn1⟩,rfl⟩,rfl⟩;have hl:=y9 hon;have hperm:=vw hwf hin ot (hall rfl);obtain ⟨l,rn,hr1,hr2⟩:=s';have hl:l=MM.keys xs:=by simpa [s0] using hl
  have hn0:rn≠0:=λ e=>by simp [eB,e,aa] at hn0
  have hn1:rn≠1:=λ e=>by simp [eB,e,aa] at hn1
  have hll:l.length=L.length:=by rw [hl,hperm.length_eq];simp [MM.keys]
  rw [<- hl] at hperm;have hlk:=iy (ro:=false) (h:=(4,.pJ 13 [2] [.ptr 3 0] [7] ca cb .ready none)::[(3,.box 31 [.gs 2 0]),(2,.arr 37 2 0 []),(0,.box 107 [.mp 1]),(1,.map (aq Dt.cells ov L) c)]) (F:=(0,.box 107 [.mp 1])::(1,.map (aq Dt.cells ov L) c)::eB 4 3 13 [2] [7] ca cb s0) (F':=(0,.box 107 [.mp 1])::(1,.map (aq Dt.cells ov L) c)::eB 4 3 13 [2] [7] ca cb ⟨l,rn,hr1,hr2⟩) hsubF (λ h=>by cases h);generalize bP false _ _ _=G at hlk;have hG:∀ n ob,lk ((0,Ob.box 107 [.mp 1])::(1,.map (aq Dt.cells ov L) c)::eB 4 3 13 [2] [7] ca cb ⟨l,rn,hr1,hr2⟩) n=some ob->lk G n=some ob:=λ n ob h=>by
   rw [hlk,eO (.inr (by rw [h];simp)),h]
  refine ⟨none,hG 4 _ (by simp [eB,aa,mg]),?_⟩;refine SW.weak (λ n=>if n=2 then rn else n) (st1:=⟨[(2,.ptr 3 0)],[(3,.box 31 [.gs 2 L.length]),(2,.arr 37 2 L.length ((l.flatMap Dt.ds).map .d)),(0,.box 107 [.mp 1]),(1,.map (aq Dt.cells ov L) c)],6⟩) ?_ ?_
  .have q3:=hG 3 (.box 31 [.gs rn l.length]) (by simp [eB,aa])
   have q2:=hG rn (.arr 37 2 l.length ((l.flatMap Dt.ds).map .d)) (by simp [eB,aa,hn0,hn1,hr1,hr2]);have q0:=hG 0 (.box 107 [.mp 1]) (by simp [aa]);have q1:=hG 1 (.map (aq Dt.cells ov L) c) (by simp [aa]);rw [hll] at q3 q2;refine ⟨by show 2<=6;omega,λ n hn=>if_neg (by omega),?_,?_,?_⟩
   .simp [aL,List.lookup,SV.aC,SV.ok]
   .simp [s7,di,Ob.aC,SV.aR,SV.aC,SV.dF,SV.aX,Ob.ok,SV.av,SV.ok,q3,q2,q0,q1,hr1,cg,bB]
   .intro a ha b hb e
    simp only [List.map_cons,List.map_nil,List.mem_cons,List.not_mem_nil,or_false] at ha hb;rcases ha with rfl | rfl | rfl | rfl <;> rcases hb with rfl | rfl | rfl | rfl <;> simp at e <;> first | rfl | omega
  ·(repeat (first | refine SW.seq ?_ | refine SW.block ?_ | refine SW.g0 [0,1,2,4,5,6,7] Zm af ?_ | refine SW.skip ?_ | refine SW.exit ?_ | refine SW.ret ?_ | refine SW.an rfl ?_ | refine SW.ah rfl ?_))
   exact End.mk ((2,.arr 37 2 L.length ((l.flatMap Dt.ds).map .d))::fE 0 1 L c) (h4:=⟨rfl,l,hperm,rfl⟩) (h6:=by simp [fE,Hp.ok,Ob.ok,SV.av,SV.ok,SV.aX,bB])
 .match n,hn with
  | 0,_ | 1,_ | 2,_ | 3,_ | 4,_=>simp [eB,s0,aa]
  | n +5,h=>
    have:n+5<5:=by simpa using h
    omega
 .rintro r F' _ h1 h2
  refine ⟨SV.fh (λ n hn=> ?_) _ h1,Hp.dV (λ n hn=> ?_) h2⟩ <;> (simp at hn ⊢;omega)
end
end Go.Proofs.YtaelhkkjgfobhaaGreat
namespace Go.Proofs.YtaelhkkjgfobhaaGreat
open Go.Sl Go.Proofs Go.Sort
attribute [local irreducible] SW RW aG SC ai ak
theorem sx (L:(MM Dt ag))(c n:Nat)(h:decide (n<2)=true):lk (fE 0 1 L c) n≠none:=by
 match n,h with
 | 0,_ | 1,_=>simp [fE,aa]
 | n +2,h=>
   have:n+2<2:=by simpa using h
   omega
theorem oM (q:Nat->Bool)(b m:Nat)(L:(MM Dt ag))(c:Nat)(hb:q b=true)(hm:q m=true):(fE b m L c).ok q=true:=by
 simp [fE,Hp.ok,Ob.ok,SV.av,SV.ok,bB,hb,hm]
theorem vA {L:(MM Dt ag)}{c:Nat}(hwf:MM.wf L c)(hL:L.length<1000000000):
  SC Tryz.prog slices_AppendSeq_Lapi_Dot_api_Dot.f [.d .aN,.fn (.func maps_Keys_map_api_Dot_api_Op_api_Dot_api_Op_1.f) [] [.ptr 0 0]] (fE 0 1 L c) 2 1
   λ r F=>r= .gs 2 L.length/\∃ l:List Dt,l.Perm (MM.keys L)/\F=(2,.arr 37 2 L.length ((l.flatMap Dt.ds).map .d))::fE 0 1 L c:=
 (vz hwf hL).here (λ n=>decide (n<2)) (sx L c) (by simp [SV.av,SV.ok]) (oM _ _ _ _ _ rfl rfl) λ r F' _ h1 h2=>⟨SV.fh (λ n hn=>by simp at hn ⊢;omega) _ h1,Hp.dV (λ n hn=>by simp at hn ⊢;omega) h2⟩
theorem zl {L:(MM Dt ag)}{c:Nat}(hwf:MM.wf L c)(hL:L.length<1000000000):
  SB Tryz.prog slices_Collect_api_Dot.f [.fn (.func maps_Keys_map_api_Dot_api_Op_api_Dot_api_Op_1.f) [] [.ptr 0 0]] (fE 0 1 L c) 2 1
   λ r F=>r= .gs 2 L.length/\∃ l:List Dt,l.Perm (MM.keys L)/\F=(2,.arr 37 2 L.length ((l.flatMap Dt.ds).map .d))::fE 0 1 L c:=by
 refine slices_Collect_api_Dot.enter (by simp [SV.ok,SV.av]) (oM _ _ _ _ _ rfl rfl) (by simp) ?_;dsimp only [slices_Collect_api_Dot.s,Co.M,Co.J,Co.F,Co.C,Co.S];refine SW.seq (SW.g0 [0,2] Zm af ?_);refine SW.seq (SW.vW ?_);(repeat (first | refine bk.op af (h:= ?_) | refine bk.dA af (h:= ?_) | refine bk.skip (h:= ?_)));refine bk.bg (vA hwf hL) (λ _ _ h=>h) (h:= ?_);rintro v F' ⟨rfl,l,hl,rfl⟩;simp only [bP,cR,cU,f_,gD,dm,lk,List.lookup,Nat.reduceBEq,BEq.rfl,beq_self_eq_true,if_true,if_false,reduceIte,Nat.reduceEqDiff,Bool.false_eq_true,Option.isSome_some,Option.isSome_none,Nat.reduceAdd,fE];(repeat (first | refine bk.op af (h:= ?_) | refine bk.dA af (h:= ?_) | refine bk.skip (h:= ?_)));refine bk.nil (SW.ret ?_);exact End.mk ((2,.arr 37 2 L.length ((l.flatMap Dt.ds).map .d))::fE 0 1 L c) (h4:=⟨rfl,l,hl,rfl⟩) (h6:=by simp [fE,Hp.ok,Ob.ok,SV.av,SV.ok,SV.aX,bB])
theorem zm {L:(MM Dt ag)}{c:Nat}(hwf:MM.wf L c)(hL:L.length<1000000000):
  SC Tryz.prog slices_Collect_api_Dot.f [.fn (.func maps_Keys_map_api_Dot_api_Op_api_Dot_api_Op_1.f) [] [.ptr 0 0]] (fE 0 1 L c) 2 1
   λ r F=>r= .gs 2 L.length/\∃ l:List Dt,l.Perm (MM.keys L)/\F=(2,.arr 37 2 L.length ((l.flatMap Dt.ds).map .d))::fE 0 1 L c:=
 (zl hwf hL).here (λ n=>decide (n<2)) (sx L c) (by simp [SV.av,SV.ok]) (oM _ _ _ _ _ rfl rfl) λ r F' _ h1 h2=>⟨SV.fh (λ n hn=>by simp at hn ⊢;omega) _ h1,Hp.dV (λ n hn=>by simp at hn ⊢;omega) h2⟩
theorem uW {L:(MM Dt ag)}{c:Nat}(hwf:MM.wf L c)(hL:L.length<1000000000):
  SB Tryz.prog slices_SortedFunc_api_Dot.f [.fn (.func maps_Keys_map_api_Dot_api_Op_api_Dot_api_Op_1.f) [] [.ptr 0 0],.fn (.func dot_Compare.f) [] []] (fE 0 1 L c) 2 0
   λ r F=>r=bE (Dt.sorted (MM.keys L))/\F=fE 0 1 L c:=by
 refine slices_SortedFunc_api_Dot.enter (by simp [SV.ok,SV.av]) (oM _ _ _ _ _ rfl rfl) (by simp) ?_;dsimp only [slices_SortedFunc_api_Dot.s,Co.M,Co.J,Co.F,Co.P,Co.Q,Co.S];refine SW.seq (SW.g0 [0,1,4,5] Zm af ?_);refine SW.seq (SW.vW ?_);(repeat (first | refine bk.op af (h:= ?_) | refine bk.dA af (h:= ?_) | refine bk.skip (h:= ?_)));refine bk.bg (zm hwf hL) (λ _ _ h=>h) (h:= ?_);rintro v F' ⟨rfl,l,hl,rfl⟩;simp only [bP,cR,cU,f_,gD,dm,lk,List.lookup,Nat.reduceBEq,BEq.rfl,beq_self_eq_true,if_true,if_false,reduceIte,Nat.reduceEqDiff,Bool.false_eq_true,Option.isSome_some,Option.isSome_none,Nat.reduceAdd,fE];(repeat (first | refine bk.op af (h:= ?_) | refine bk.dA af (h:= ?_) | refine bk.skip (h:= ?_)));refine bk.nil ?_;have hlen:l.length=L.length:=by rw [hl.length_eq];simp [MM.keys]
 refine SW.seq (SW.vW ?_);(repeat (first | refine bk.op af (h:= ?_) | refine bk.dA af (h:= ?_) | refine bk.skip (h:= ?_)));rw [<- hlen];refine bk.oy af (oI 2 l (by omega) 3) (h:= ?_);refine bk.nil ?_;refine SW.seq (SW.g0 [0,1,4,5] Zm af ?_);have gy:(Dt.sorted l).length=l.length:=(Dt.sorted_perm l).length_eq;have hse:Dt.sorted l=Dt.sorted (MM.keys L):=Dt.jH ((Dt.sorted_perm l).trans hl) (Dt.fS l);refine SW.weak id (st1:=⟨[(4,.gs 2 l.length)],[(2,.arr 37 2 l.length (((Dt.sorted l).flatMap Dt.ds).map .d)),(0,.box 107 [.mp 1]),(1,.map (aq Dt.cells ov L) c)],3⟩) (aQ.same (by simp) (by simp [aL,List.lookup,SV.aC,SV.ok]) (by simp [Hp.ok,Ob.ok,SV.av,SV.ok,SV.aX,bB]) (by simp [aa])) ?_;refine SW.freeze 2 ((Dt.sorted l).flatMap Dt.ds) rfl rfl ?_;have e1:lR 2 l.length ((Dt.sorted l).flatMap Dt.ds) [(4,.gs 2 l.length)]=[(4,bE (Dt.sorted (MM.keys L)))]:=by
  rw [<- hse];simp only [lR,List.map_cons,List.map_nil,SV.iw,if_true,bE,gy]
 show Go.Sl.SW _ _ _ _ ⟨lR 2 l.length ((Dt.sorted l).flatMap Dt.ds) [(4,.gs 2 l.length)],fE 0 1 L c,3⟩ _;rw [e1];refine SW.ret ?_;exact End.mk (fE 0 1 L c) (h3:=λ _ _ h=>h) (h4:=⟨rfl,rfl⟩) (h5:=rfl) (h6:=oM _ _ _ _ _ rfl rfl)
theorem uX {L:(MM Dt ag)}{c:Nat}(hwf:MM.wf L c)(hL:L.length<1000000000)(k:Nat)(b m:Nat)(K7:b≠m):
  aG Tryz.prog slices_SortedFunc_api_Dot.f [.fn (.func maps_Keys_map_api_Dot_api_Op_api_Dot_api_Op_1.f) [] [.ptr b 0],.fn (.func dot_Compare.f) [] []] (fE b m L c) k 0 (bE (Dt.sorted (MM.keys L))) (fE b m L c):=by
 have h:=SB.mX [b,m] (uW hwf hL) (by simp [K7]) (λ i hi=>sx L c i (by simpa using hi)) k
 simpa [SV.aR,SV.aC,eP,fE,Hp.aC,Ob.aC,cg] using h
theorem FL (L:(MM Dt ag))(c:Nat):SB Tryz.prog maps_Keys_map_api_Dot_api_Op_api_Dot_api_Op.f [.mp 0] [(0,.map (aq Dt.cells ov L) c)] 1 1 λ r F=>r= .fn (.func maps_Keys_map_api_Dot_api_Op_api_Dot_api_Op_1.f) [] [.ptr 1 0]/\F=[(1,.box 107 [.mp 0]),(0,.map (aq Dt.cells ov L) c)]:=by
 refine maps_Keys_map_api_Dot_api_Op_api_Dot_api_Op.enter rfl (by simp [Hp.ok,Ob.ok,bB]) (by simp) ?_;dsimp only [maps_Keys_map_api_Dot_api_Op_api_Dot_api_Op.s,Co.M,Co.J,Co.F,Co.x,Co.S];(repeat (first | refine SW.seq ?_ | refine SW.block ?_ | refine SW.g0 [0,1,2] Zm af ?_ | refine SW.skip ?_ | refine SW.exit ?_ | refine SW.ret ?_ | refine SW.an rfl ?_ | refine SW.ah rfl ?_));exact End.mk [(1,.box 107 [.mp 0]),(0,.map (aq Dt.cells ov L) c)] (h4:=⟨rfl,rfl⟩) (h6:=by simp [Hp.ok,Ob.ok,SV.av,SV.ok,bB])
theorem FM (L:(MM Dt ag))(c:Nat)(n k:Nat):aG Tryz.prog maps_Keys_map_api_Dot_api_Op_api_Dot_api_Op.f [.mp n] [(n,.map (aq Dt.cells ov L) c)] k 1 (.fn (.func maps_Keys_map_api_Dot_api_Op_api_Dot_api_Op_1.f) [] [.ptr k 0]) [(k,.box 107 [.mp n]),(n,.map (aq Dt.cells ov L) c)]:=by
 have h:=SB.mX [n] (FL L c) (by simp) (λ i hi=>by cases i with | zero=>simp [aa] | succ i=>simp at hi) k
 simpa [SV.aR,SV.aC,eP,Hp.aC,Ob.aC,cg] using h
end Go.Proofs.YtaelhkkjgfobhaaGreat
namespace Go.Proofs.YtaelhkkjgfobhaaGreat
open Go.Sl Go.Proofs
section
theorem dh.ID {l:List ag}{S:Sh}(h:dh l S):Dt.sorted (MM.keys S.ops)=Dt.set (l.map (·.dot)):=
 Dt.gY (Dt.rm h.base.ops.wf.keys) (Dt.gZ _) λ v=>by
  rw [(Dt.sorted_perm _).mem_iff,Dt.mem_set,<- MM.gV,h.base.has,iY,List.mem_map]
theorem dh.jF {l:List ag}{S:Sh}(h:dh l S):S.ops.length<=l.length:=by
 have:=h.base.ops.wf.keys.length_le_of_subset (l₂:=l.map (·.dot)) λ d hd=>by
  rw [<- MM.gV,h.base.has,iY] at hd;obtain ⟨o,ho,e⟩:=hd;exact List.mem_map.2 ⟨o,ho,e⟩
 simpa [MM.keys] using this
section
attribute [local irreducible] SW RW aG SC ai ak
set_option maxHeartbeats 4000000 in
theorem FN (S:Sh)(hwf:MM.wf S.ops S.co)(hL:S.ops.length<1000000000):SB Tryz.prog shape_Shape_Dots.f [.ptr 0 0] S.h0 7 0 λ r F=>r=bE (Dt.sorted (MM.keys S.ops))/\F=S.h0:=by
 refine shape_Shape_Dots.enter (by simp [SV.av,SV.ok]) (S.ok (Nat.le_refl 7)) (by simp) ?_;dsimp only [shape_Shape_Dots.s,Co.M,Co.J,Co.F,Co.C,Co.T,Co.P,Co.D,Co.A,Co.S];refine SW.seq (SW.g0 [0,2,4] Zm af ?_);refine SW.seq (SW.seq (SW.g1 [0,2,4] Zm af (tD S) ?_));refine SW.ah rfl (SW.skip ?_);refine SW.seq ?_;have cS:∀ k,aG Tryz.prog slices_SortedFunc_api_Dot.f [.fn (.func maps_Keys_map_api_Dot_api_Op_api_Dot_api_Op_1.f) [] [.ptr 7 0],.fn (.func dot_Compare.f) [] []] [(7,.box 107 [.mp 1]),(1,.map (aq Dt.cells ov S.ops) S.co)] k 0 (bE (Dt.sorted (MM.keys S.ops))) [(7,.box 107 [.mp 1]),(1,.map (aq Dt.cells ov S.ops) S.co)]:=λ k=>uX hwf hL k 7 1 (by decide)
 have cK:=FM S.ops S.co 1;refine SW.g2 [0,2,4] Zm af cK cS ?_;refine SW.ret ?_;exact End.mk S.h0 (h4:=⟨rfl,rfl⟩) (h6:=S.ok (Nat.le_refl 7))
theorem dh.FO {l:List ag}{S:Sh}(h:dh l S)(hl:l.length<=80)(k:Nat):aG Tryz.prog shape_Shape_Dots.f [.ptr 10 0] S.lg k 0 (bE (Dt.set (l.map (·.dot)))) S.lg:=by
 have:=S.at_ (args:=[]) (FN S h.base.ops.wf (by have:=h.jF;omega)) (λ _=>rfl) (λ _=>rfl) n10 xB k;rw [h.ID] at this;exact this
end
end
section
theorem pV {l:List ag}(hl:l.length<=80)(hd:∀ o,o∈l->o.nT/\o.cl.length<=140737488351232):∀ i,i<=l.length->0<=fL l i/\fL l i<=i*140737488351232/\∀ j,j<i->∀ o,l[j]? =some o->(o.cl.length:Int)<=fL l i
 | 0,_=>⟨Int.le_refl _,by simp [fL],λ j h=>by omega⟩
 | i +1,hi=>by
  obtain ⟨h1,h2,h3⟩:=pV hl hd i (by omega);obtain ⟨x,hx⟩:=br (show i<l.length by omega);obtain ⟨k1,k2⟩:=hd x (List.mem_of_getElem? hx);have hn:xm x=x.cl.length:=by unfold xm;rw [k1.eq]
  have e:fL l (i+1)=fL l i+(x.cl.length:Int):=by
   simp only [fL,hx,Option.map_some,Option.getD_some,hn];exact wrap_i64 _ (by omega)
  rw [e];refine ⟨by omega,by omega,λ j hj o ho=> ?_⟩
  by_cases hji:j=i
  .subst hji;rw [hx] at ho;cases ho;omega
  .have:=h3 j (by omega) o ho;omega
theorem zn {l:List ag}(h:jA l=false)(hd:∀ o,o∈l->o.nT/\o.cl.length<=140737488351232):∀ o,o∈l->o.cl.length<=1048576:=λ o ho=>by
 have hl:=wj h;unfold jA at h;simp only [Bool.or_eq_false_iff,decide_eq_false_iff_not] at h;obtain ⟨i,hi,rfl⟩:=List.getElem_of_mem ho;have:=(pV hl hd l.length (Nat.le_refl _)).2.2 i hi _ (List.getElem?_eq_getElem hi);rw [show min l.length 100=l.length by omega] at h;omega
end
end Go.Proofs.YtaelhkkjgfobhaaGreat
