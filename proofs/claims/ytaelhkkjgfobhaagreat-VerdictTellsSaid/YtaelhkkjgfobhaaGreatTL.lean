/-
 Shapes: what is well-formed names what it needs (plain).
-/
import Derived.Test.YtaelhkkjgfobhaaGreatTE
set_option linter.unusedSectionVars false
set_option linter.unusedVariables false
set_option linter.unusedSimpArgs false
namespace Go.Proofs.YtaelhkkjgfobhaaGreat
open Go.Sl Go.Proofs
section
section
variable {l:List ag} {o:ag} (hw:fB l o=0)
include hw
theorem vv (hk:o.kind≠0):∃ c,MM.get (av l).at_ o.aN=some c/\c.aI=o.aI/\c.hold=o.who/\kg c o.kind=false:=by
 unfold fB qF at hw;obtain⟨_,_,h3,_,_⟩:=zU.1 hw;obtain⟨e1,e2,e3⟩:=h3 hk;obtain⟨c,a,h1,_,_,_,h5⟩:=oS.1 e1;rw[h1] at e2 e3;exact⟨c,h1,h5,Int.ofNat_inj.1 e2,e3⟩
theorem Df:mS l (av l).at_ (av l).made o (fA (av l).at_ o.aN o.at_ (lM (av l).at_ o.at_))=true:=by
 unfold fB qF at hw;exact(zU.1 hw).2.2.2.2
theorem Aa (hk:o.kind=2):fA (av l).at_ o.aN o.at_ (lM (av l).at_ o.at_)=true:=by
 have:=Df hw;unfold mS at this;rw[if_pos hk,Bool.and_eq_true] at this;exact this.2
end
end
section
end
section
section
attribute [local irreducible] SW RW aF SC ai ak
theorem Gs (S:Sh):SB Tryz.prog shape_Shape_Tree.f [.ptr 0 0] S.h0 7 0 λ r F=>r= .ptr 4 0/\F=S.h0:=by
 refine shape_Shape_Tree.enter (by simp[SV.au,SV.ok]) (S.ok (Nat.le_refl 7)) (by simp) ?_;dsimp only[shape_Shape_Tree.s,Co.M,Co.J,Co.F,Co.T,Co.P,Co.D,Co.A,Co.S];(repeat (first|refine SW.seq ?_|refine SW.block ?_|refine SW.g1 ip Zm af (uh S) ?_|refine SW.skip ?_|refine SW.exit ?_|refine SW.ret ?_|refine SW.an rfl ?_|refine SW.ah rfl ?_));exact End.mk S.h0 (h4:=⟨rfl,rfl⟩) (h6:=S.ok (Nat.le_refl 7))
theorem dG.Jp (S:Sh)(k:Nat):aF Tryz.prog shape_Shape_Tree.f [.ptr 10 0] S.lU k 0 (.ptr 2 0) S.lU:=by
 have:=SB.nB n10.nl (Gs S) (by decide) (λ i hi=>S.KI i hi) k;rw[S.FC n10 k] at this;exact this
end
end
section
theorem Jq (l:List ag)(d:Dt)(o:ag):lP l (av l).at_ d o=((bH l 10 d).2 && (decide ((bH l 10 d).1.aI=o.aI) && ji l d o)):=by
 obtain⟨a1,a2⟩:=(dF l).get d;have a1:(bH l 10 d).2=(MM.get (av l).at_ d).isSome:=a1;unfold lP MM.has;rw[a1];cases h:MM.get (av l).at_ d with
 | none=>rfl
 | some c=>
  have:=a2 c h;rw[this];rfl
theorem Jr {l:List ag}{d:Dt}{o:ag}(h:lP l (av l).at_ d o=true):(bH l 10 d).1=(MM.get (av l).at_ d).getD Cr.zero:=by
 obtain⟨c,a,h1,_⟩:=oS.1 h;obtain⟨_,a2⟩:=(dF l).get d;have:=a2 c h1;rw[this,h1];rfl
theorem Gt (n:Nat):IntKind.u8.wrap (n:Int)=((n % 256:Nat):Int):=by
 unfold IntKind.wrap;simp[IntKind.bits,IntKind.signed]
theorem Js (m i:Nat):m &&& 2 ^ i=if m.testBit i then 2 ^ i else 0:=by
 apply Nat.eq_of_testBit_eq;intro j;rw[Nat.testBit_and,Nat.testBit_two_pow]
 by_cases e:i=j
 .subst e;cases h:m.testBit i<;>simp[Nat.testBit_two_pow]
 .cases h:m.testBit i<;>simp[e,Nat.testBit_two_pow]
theorem Gu {c:Cr}{q:Nat}(h0:q≠0)(h8:q<=8):((IntKind.u8.wrap ((c.aT:Int).tdiv (fO q:Int))).tmod 2 != 1)=kg c q/\(fO q:Int)≠0:=by
 have key:∀ i,i<=2->fO q=2 ^ i->((IntKind.u8.wrap ((c.aT:Int).tdiv (fO q:Int))).tmod 2 != 1)=kg c q/\(fO q:Int)≠0:=λ i h2i hi=>by
  unfold kg;rw[hi,and_eq];have e:(c.aT:Int).tdiv ((2 ^ i:Nat):Int)=((c.aT / 2 ^ i:Nat):Int):=(Int.ofNat_tdiv _ _).symm;have e2:(((c.aT / 2 ^ i % 256:Nat):Int)).tmod 2=((c.aT / 2 ^ i % 256 % 2:Nat):Int):=(Int.ofNat_tmod _ 2).symm;rw[e,Gt,e2,BitVec.toNat_and,BitVec.toNat_ofNat,BitVec.toNat_ofNat,Nat.mod_eq_of_lt (show 2 ^ i<2 ^ 8 from Nat.pow_lt_pow_right (by omega) (by omega)),Js];have h3:c.aT / 2 ^ i % 256 % 2=(c.aT % 2 ^ 8) / 2 ^ i % 2:=by
   rcases(show i=0\/i=1\/i=2 by omega) with rfl|rfl|rfl<;>simp only[Nat.reducePow]<;>omega
  have h4:(c.aT % 2 ^ 8).testBit i=decide ((c.aT % 2 ^ 8) / 2 ^ i % 2=1):=Nat.testBit_eq_decide_div_mod_eq;have hp:=Nat.two_pow_pos i;refine⟨?_,by omega⟩;rw[h3,h4];generalize (c.aT % 2 ^ 8) / 2 ^ i % 2=m
  by_cases hm:m=1
  .subst hm;simp
  .rw[decide_eq_false hm,Bool.eq_iff_iff]
   simp only[Bool.false_eq_true,if_false,bne_iff_ne,ne_eq];constructor
   .intro _;omega
   .intro _;omega
 rcases(show q=1\/q=2\/q=3\/q=4\/q=5\/q=6\/q=7\/q=8 by omega) with rfl|rfl|rfl|rfl|rfl|rfl|rfl|rfl
 .exact key 0 (by omega) rfl
 .exact key 0 (by omega) rfl
 .exact key 1 (by omega) rfl
 .exact key 1 (by omega) rfl
 .exact key 1 (by omega) rfl
 .exact key 2 (by omega) rfl
 .exact key 2 (by omega) rfl
 .exact key 1 (by omega) rfl
noncomputable def oV (l:List ag)(d aI:Dt):Bool:=match aJ l d with
 | some a=>decide (a.kind=3) && (decide (a.aI=aI) && decide (fB l a=0))
 | none=>false
theorem Gv {l:List ag}{a:ag}(h:a.kind=3):fB l a=fQ l (av l).at_ (av l).made a true:=by
 unfold fB qF;have:mS l (av l).at_ (av l).made a (fA (av l).at_ a.aN a.at_ (lM (av l).at_ a.at_))=true:=by
  unfold mS;rw[if_neg (by omega),if_neg (by omega),if_neg (by omega),if_neg (by omega)]
 rw[this]
theorem Gw {l:List ag}{s:ag}(h:s.kind=4):fB l s=fQ l (av l).at_ (av l).made s (jg l (av l).at_ (av l).made s.at_ s):=by
 unfold fB qF;have:mS l (av l).at_ (av l).made s (fA (av l).at_ s.aN s.at_ (lM (av l).at_ s.at_))=jg l (av l).at_ (av l).made s.at_ s:=by
  unfold mS;rw[if_neg (by omega),if_pos (.inl h)]
 rw[this]
theorem Ab (l:List ag)(d:Dt)(o:ag):jg l (av l).at_ (av l).made d o=(oV l d o.aI && ji l d o):=by
 unfold jg zS oV;cases h:aJ l d with
 | none=>rfl
 | some a=>
  dsimp only;rw[bI h]
  by_cases h3:a.kind=3
  .rw[Gv h3]
   cases decide (a.aI=o.aI)<;>cases ji l d o<;>simp[h3]
  .simp[h3]
theorem Jt (l:List ag)(c:Cm)(o:ag):mD l (av l).at_ (av l).made c o=((oV l c.line o.aI && ji l c.line o) && (decide (c.j5=c.line) || (match aJ l c.j5 with
  | some s=>decide (s.kind=4) && (decide (s.at_=c.line) && (ji l c.j5 o && decide (fB l s=0)))
  | none=>false))):=by
 unfold mD;rw[Ab]
 congr 2
 unfold tU;cases h:aJ l c.j5 with
 | none=>rfl
 | some s=>
  dsimp only
  by_cases h4:s.kind=4
  .rw[Gw h4]
   by_cases hw:fQ l (av l).at_ (av l).made s (jg l (av l).at_ (av l).made s.at_ s)=0
   .simp only[h4,hw,and_self,if_true,Option.isSome_some,Option.getD_some,decide_true,Bool.true_and,Bool.and_true]
   .simp only[hw,and_false,if_false,Option.isSome_none,Bool.false_and,decide_false,Bool.and_false]
  .simp only[h4,false_and,if_false,Option.isSome_none,Bool.false_and,decide_false]
end
section
section
attribute [local irreducible] SW RW aF SC ai ak fO
variable (l:List ag) (hl:l.length<1000000000)
include hl
theorem oW (d:Dt)(k:Nat):aF Tryz.prog ref10_Find.f [ops l,.agg d.cells] [] k 0 (.de [.agg (j4 l d).cells,bl (aJ l d).isSome]) []:=pO l (by omega) d k
theorem Mg (d:Dt)(o:ag):Go.Sl.Pure Tryz.prog ref17_before.f [ops l,.agg d.cells,.agg o.cells] (bl (ji l d o)):=by
 have hf:=oW l hl d;have e:ji l d o=((aJ l d).isSome && (j4 l d).before o):=rfl;rw[e];obtain⟨a,ha⟩:∃ a,j4 l d=a:=⟨_,rfl⟩;rw[ha] at hf ⊢;refine ref17_before.enter (by first|rfl|simp[SV.ok,SV.au]) (by first|rfl|simp[Hp.ok,Ob.ok,SV.ok,SV.au,aB.aj]) (by simp) ?_;dsimp only[ref17_before.s,Co.M,Co.J,Co.H,Co.F,Co.C,Co.B,Co.bC,Co.K,Co.E,Co.Q,Co.x,Co.W,Co.U,Co.S];rcases hi:(aJ l d).isSome with _|_
 ·(repeat (first|refine SW.seq ?_|refine SW.block ?_|refine SW.g2 dp Zm hi hf (cg a o) ?_|refine SW.skip ?_|refine SW.exit ?_|refine SW.ret ?_|refine SW.an rfl ?_|refine SW.ah rfl ?_))
  exact End.mk [] (h4:=⟨rfl,rfl⟩)
 ·(repeat (first|refine SW.seq ?_|refine SW.block ?_|refine SW.g2 dp Zm hi hf (cg a o) ?_|refine SW.skip ?_|refine SW.exit ?_|refine SW.ret ?_|refine SW.an rfl ?_|refine SW.ah rfl ?_))
  exact End.mk [] (h4:=⟨by rw[Bool.true_and];rfl,rfl⟩)
theorem yF (d:Dt)(o:ag)(k:Nat):aF Tryz.prog ref17_before.f [ops l,.agg d.cells,.agg o.cells] [] k 0 (bl (ji l d o)) []:=(Mg l hl d o).sc rfl k
theorem Dg (o:ag):Go.Sl.Pure Tryz.prog ref17_cart.f [ops l,.agg o.cells] (bl (lN l o)):=by
 have hf:=oW l hl o.aI;refine ref17_cart.enter (by first|rfl|simp[SV.ok,SV.au]) (by first|rfl|simp[Hp.ok,Ob.ok,SV.ok,SV.au,aB.aj]) (by simp) ?_;dsimp only[ref17_cart.s,Co.M,Co.J,Co.H,Co.F,Co.C,Co.B,Co.b8,Co.bC,Co.T,Co.K,Co.E,Co.Q,Co.x,Co.W,Co.U,Co.D,Co.S]
 by_cases hk:o.kind=0
 .have z:((o.kind:Int) == 0)=true:=by rw[hk];rfl
  have e:lN l o=decide (o.aI=o.dot):=by unfold lN;rw[if_pos hk]
  rw[e];(repeat (first|refine SW.seq ?_|refine SW.block ?_|refine SW.g0 jn Zm z ?_|refine SW.skip ?_|refine SW.exit ?_|refine SW.ret ?_|refine SW.an rfl ?_|refine SW.ah rfl ?_));exact End.mk [] (h4:=⟨rfl,rfl⟩)
 have z:((o.kind:Int) == 0)=false:=by simp;exact hk
 obtain⟨a,ha⟩:∃ a,j4 l o.aI=a:=⟨_,rfl⟩;have e:lN l o=((aJ l o.aI).isSome && (decide (a.kind=0) && (decide (a.aI=o.aI) && a.before o))):=by
  unfold lN;rw[if_neg hk];cases h:aJ l o.aI with
  | none=>rfl
  | some b=>
   have hb:a=b:=by rw[<- ha,bI h]
   rw[bI h,hb,eW h]
 rw[e];rw[ha] at hf;rcases hi:(aJ l o.aI).isSome with _|_
 ·(repeat (first|refine SW.seq ?_|refine SW.block ?_|refine SW.g2 jn Zm (Zq z hi) hf (cg a o) ?_|refine SW.skip ?_|refine SW.exit ?_|refine SW.ret ?_|refine SW.an rfl ?_|refine SW.ah rfl ?_))
  exact End.mk [] (h4:=⟨rfl,rfl⟩)
 by_cases h1:a.kind=0
 rotate_left
 .have z1:((a.kind:Int) == 0)=false:=by simp;exact h1
  (repeat (first|refine SW.seq ?_|refine SW.block ?_|refine SW.g2 jn Zm (Zq z (Zq hi z1)) hf (cg a o) ?_|refine SW.skip ?_|refine SW.exit ?_|refine SW.ret ?_|refine SW.an rfl ?_|refine SW.ah rfl ?_));exact End.mk [] (h4:=⟨by rw[decide_eq_false h1];rfl,rfl⟩)
 have z1:((a.kind:Int) == 0)=true:=by rw[h1];rfl
 rw[decide_eq_true h1];rcases h2:decide (a.aI=o.aI) with _|_
 ·(repeat (first|refine SW.seq ?_|refine SW.block ?_|refine SW.g2 jn Zm (Zq z (Zq hi (Zq z1 h2))) hf (cg a o) ?_|refine SW.skip ?_|refine SW.exit ?_|refine SW.ret ?_|refine SW.an rfl ?_|refine SW.ah rfl ?_))
  exact End.mk [] (h4:=⟨rfl,rfl⟩)
 ·(repeat (first|refine SW.seq ?_|refine SW.block ?_|refine SW.g2 jn Zm (Zq z (Zq hi (Zq z1 h2))) hf (cg a o) ?_|refine SW.skip ?_|refine SW.exit ?_|refine SW.ret ?_|refine SW.an rfl ?_|refine SW.ah rfl ?_))
  exact End.mk [] (h4:=⟨by simp only[Bool.true_and];rfl,rfl⟩)
theorem Dh (o:ag)(k:Nat):aF Tryz.prog ref17_cart.f [ops l,.agg o.cells] [] k 0 (bl (lN l o)) []:=(Dg l hl o).sc rfl k
variable (hr:∀ x,x∈l->x.aT<256)
include hr
set_option maxHeartbeats 4000000 in
theorem Di (d:Dt)(o:ag):Go.Sl.Pure Tryz.prog ref17_cred.f [ops l,.agg d.cells,.agg o.cells] (.de [.agg (bH l 10 d).1.cells,bl (lP l (av l).at_ d o)]):=by
 have hg:=yq (by omega) hr d;have hb:=yF l hl d o;rw[Jq];obtain⟨⟨c,is⟩,hc⟩:∃ p,bH l 10 d=p:=⟨_,rfl⟩;rw[hc] at hg ⊢;dsimp only at hg ⊢;obtain⟨bf,hbf⟩:∃ b,ji l d o=b:=⟨_,rfl⟩;rw[hbf] at hb ⊢;refine ref17_cred.enter (by first|rfl|simp[SV.ok,SV.au]) (by first|rfl|simp[Hp.ok,Ob.ok,SV.ok,SV.au,aB.aj]) (by simp) ?_;dsimp only[ref17_cred.s,Co.M,Co.G,Co.J,Co.H,Co.F,Co.C,Co.B,Co.b8,Co.ay,Co.bu,Co.i6,Co.K,Co.E,Co.Q,Co.x,Co.W,Co.U,Co.S];refine SW.seq (SW.g0 dT Zm af ?_);refine SW.seq (SW.g1 dT Zm af hg ?_);refine SW.seq ?_;cases is with
 | false=>
  refine SW.g1 dT Zm af hb ?_;refine SW.ret ?_;exact End.mk [] (h1:=by first|rfl|simp[CC,lk,List.lookup,AD];rfl) (h4:=⟨rfl,rfl⟩)
 | true=>
  rcases h2:decide (c.aI=o.aI) with _|_
  .refine SW.g1 dT Zm h2 hb ?_
   refine SW.ret ?_;exact End.mk [] (h4:=⟨rfl,rfl⟩)
  .refine SW.g1 dT Zm h2 hb ?_
   refine SW.ret ?_;exact End.mk [] (h4:=⟨by simp only[Bool.true_and];rfl,rfl⟩)
theorem xF (d:Dt)(o:ag)(k:Nat):aF Tryz.prog ref17_cred.f [ops l,.agg d.cells,.agg o.cells] [] k 0 (.de [.agg (bH l 10 d).1.cells,bl (lP l (av l).at_ d o)]) []:=(Di l hl hr d o).sc rfl k
end
section
attribute [local irreducible] SW RW aF SC ai ak
theorem Dj (q:Nat)(hq:q<=8):Go.Sl.Pure Tryz.prog ref17_Needs.f [u8 q] (u8 (fO q)):=by
 rcases(show q=0\/q=1\/q=2\/q=3\/q=4\/q=5\/q=6\/q=7\/q=8 by omega) with rfl|rfl|rfl|rfl|rfl|rfl|rfl|rfl|rfl
 all_goals
  refine ref17_Needs.enter (by first|rfl|simp[SV.ok,SV.au]) (by first|rfl|simp[Hp.ok,Ob.ok,SV.ok,SV.au,aB.aj]) (by simp) ?_;dsimp only[ref17_Needs.s,Co.M,Co.J,Co.F,Co.b8,Co.S];(repeat (first|refine SW.seq ?_|refine SW.block ?_|refine SW.g0 [0,2,3,4,7,12] Zm af ?_|refine SW.skip ?_|refine SW.exit ?_|refine SW.ret ?_|refine SW.an rfl ?_|refine SW.ah rfl ?_));exact End.mk [] (h4:=⟨rfl,rfl⟩)
theorem Dk (q:Nat)(hq:q<=8)(k:Nat):aF Tryz.prog ref17_Needs.f [u8 q] [] k 0 (u8 (fO q)) []:=(Dj q hq).sc rfl k
end
section
attribute [local irreducible] SW RW aF SC ai ak fO
variable (l:List ag) (hl:l.length<1000000000) (hr:∀ x,x∈l->x.aT<256)
include hl hr
set_option maxHeartbeats 8000000 in
theorem oZ (o:ag)(ho:o.aT<256)(t:Bool)(ht:∀ k,aF Tryz.prog ref17_target.f [ops l,.agg o.cells] [] k 0 (bl t) [])(h0:o.kind=0->t=true):
  Go.Sl.Pure Tryz.prog ref17_Why.f [ops l,.agg o.cells] (i64 (fQ l (av l).at_ (av l).made o t)):=by
 have hct:=Dh l hl o;have hcd:=xF l hl hr o.aN o;refine ref17_Why.enter (by first|rfl|simp[SV.ok,SV.au]) (by first|rfl|simp[Hp.ok,Ob.ok,SV.ok,SV.au,aB.aj]) (by simp) ?_;dsimp only[ref17_Why.s,Co.M,Co.G,Co.J,Co.H,Co.F,Co.C,Co.Z,Co.b8,Co.ay,Co.bu,Co.i6,Co.T,Co.K,Co.E,Co.P,Co.Q,Co.R,Co.x,Co.W,Co.V,Co.U,Co.O,Co.D,Co.S];refine SW.seq (SW.g0 aw Zm af ?_);refine SW.seq (SW.seq ?_)
 by_cases h8:(o.kind:Int)>8
 .have e:fQ l (av l).at_ (av l).made o t=2:=by unfold fQ;rw[decide_eq_true h8];rfl
  rw[e];have g:=decide_eq_true h8;(repeat (first|refine SW.seq ?_|refine SW.block ?_|refine SW.g0 aw Zm g ?_|refine SW.skip ?_|refine SW.exit ?_|refine SW.ret ?_|refine SW.an rfl ?_|refine SW.ah rfl ?_));exact End.mk [] (h4:=⟨rfl,rfl⟩)
 have g8:=decide_eq_false h8;refine SW.g0 aw Zm g8 ?_;refine SW.ah rfl (SW.skip (SW.seq (SW.seq ?_)));rcases hc:lN l o with _|_
 .have e:fQ l (av l).at_ (av l).made o t=271:=by unfold fQ;rw[g8,hc];rfl
  rw[e];rw[hc] at hct;(repeat (first|refine SW.seq ?_|refine SW.block ?_|refine SW.g1 aw Zm af hct ?_|refine SW.skip ?_|refine SW.exit ?_|refine SW.ret ?_|refine SW.an rfl ?_|refine SW.ah rfl ?_));exact End.mk [] (h4:=⟨rfl,rfl⟩)
 rw[hc] at hct;refine SW.g1 aw Zm af hct ?_;refine SW.ah rfl (SW.skip (SW.seq (SW.seq ?_)))
 by_cases lW:o.kind=0
 .have z:((o.kind:Int) == 0)=true:=by rw[lW];rfl
  have e:fQ l (av l).at_ (av l).made o t=0:=by
   unfold fQ;rw[g8,hc,z,lW,oe,h0 lW];rfl
  rw[e];(repeat (first|refine SW.seq ?_|refine SW.block ?_|refine SW.g0 aw Zm z ?_|refine SW.skip ?_|refine SW.exit ?_|refine SW.ret ?_|refine SW.an rfl ?_|refine SW.ah rfl ?_));exact End.mk [] (h4:=⟨rfl,rfl⟩)
 have z:((o.kind:Int) == 0)=false:=by simp;exact lW
 refine SW.g0 aw Zm z ?_;refine SW.ah rfl (SW.skip (SW.seq ?_));rcases hd:lP l (av l).at_ o.aN o with _|_
 .have e:fQ l (av l).at_ (av l).made o t=272:=by unfold fQ;rw[g8,hc,z,hd];rfl
  rw[e];rw[hd] at hcd;refine SW.g1 aw Zm af hcd ?_;(repeat (first|refine SW.seq ?_|refine SW.block ?_|refine SW.g0 aw Zm af ?_|refine SW.skip ?_|refine SW.exit ?_|refine SW.ret ?_|refine SW.an rfl ?_|refine SW.ah rfl ?_));exact End.mk [] (h4:=⟨rfl,rfl⟩)
 rw[hd,Jr hd] at hcd;obtain⟨c,hcr⟩:∃ c,(MM.get (av l).at_ o.aN).getD Cr.zero=c:=⟨_,rfl⟩;rw[hcr] at hcd;refine SW.g1 aw Zm af hcd ?_;refine SW.seq (SW.seq (SW.g0 aw Zm af ?_));refine SW.ah rfl (SW.skip (SW.seq (SW.seq ?_)));rcases hh:((c.hold:Int) != (o.who:Int)) with _|_
 rotate_left
 .have e:fQ l (av l).at_ (av l).made o t=273:=by unfold fQ;rw[g8,hc,z,hd,hcr,hh];rfl
  rw[e];(repeat (first|refine SW.seq ?_|refine SW.block ?_|refine SW.g0 aw Zm hh ?_|refine SW.skip ?_|refine SW.exit ?_|refine SW.ret ?_|refine SW.an rfl ?_|refine SW.ah rfl ?_));exact End.mk [] (h4:=⟨rfl,rfl⟩)
 refine SW.g0 aw Zm hh ?_;refine SW.ah rfl (SW.skip (SW.seq (SW.seq ?_)));have hk8:o.kind<=8:=by omega
 obtain⟨hq1,hq2⟩:=Gu (c:=c) lW hk8;have hn:=Dk o.kind hk8;obtain⟨nv,hnv⟩:∃ nv,fO o.kind=nv:=⟨_,rfl⟩;rw[hnv] at hq1 hq2 hn;rcases hb:kg c o.kind with _|_
 rotate_left
 .have e:fQ l (av l).at_ (av l).made o t=274:=by unfold fQ;rw[g8,hc,z,hd,hcr,hh,hb];rfl
  rw[e];rw[hb] at hq1;refine SW.g1 aw Zm hq1 hn ?_;(repeat (first|refine SW.seq ?_|refine SW.block ?_|refine SW.g0 aw Zm af ?_|refine SW.skip ?_|refine SW.exit ?_|refine SW.ret ?_|refine SW.an rfl ?_|refine SW.ah rfl ?_));exact End.mk [] (h4:=⟨rfl,rfl⟩)
 rw[hb] at hq1;refine SW.g1 aw Zm hq1 hn ?_;refine SW.ah rfl (SW.skip (SW.seq (SW.seq ?_)));have hw:=IV (by omega) hr o ho;have Ed:=yz l o;rw[<- Ed] at hw;obtain⟨w,hww⟩:∃ w,tE (av l).at_ (av l).made o=w:=⟨_,rfl⟩;rw[hww] at hw
 by_cases h1:o.kind=1
 .have z1:((o.kind:Int) == 1)=true:=by rw[h1];rfl
  by_cases hw0:w=0
  rotate_left
  .have zw:((w:Int) != 0)=true:=by simp;exact hw0
   have e:fQ l (av l).at_ (av l).made o t=275:=by
    unfold fQ;rw[g8,hc,z,hd,hcr,hh,hb,hww,decide_eq_true h1,decide_eq_true hw0];rfl
   rw[e];refine SW.g1 aw Zm (Zq z1 zw) hw ?_;(repeat (first|refine SW.seq ?_|refine SW.block ?_|refine SW.g0 aw Zm af ?_|refine SW.skip ?_|refine SW.exit ?_|refine SW.ret ?_|refine SW.an rfl ?_|refine SW.ah rfl ?_));exact End.mk [] (h4:=⟨rfl,rfl⟩)
  have zw:((w:Int) != 0)=false:=by simp;exact hw0
  have e:fQ l (av l).at_ (av l).made o t=if !t then 276 else 0:=by
   unfold fQ;rw[g8,hc,z,hd,hcr,hh,hb,hww,decide_eq_true h1,decide_eq_false (λ h=>h hw0)];rfl
  rw[e];refine SW.g1 aw Zm (Zq z1 zw) hw ?_;refine SW.ah rfl (SW.skip ?_);cases t
  ·(repeat (first|refine SW.seq ?_|refine SW.block ?_|refine SW.g1 aw Zm af ht ?_|refine SW.skip ?_|refine SW.exit ?_|refine SW.ret ?_|refine SW.an rfl ?_|refine SW.ah rfl ?_))
   exact End.mk [] (h4:=⟨rfl,rfl⟩)
  ·(repeat (first|refine SW.seq ?_|refine SW.block ?_|refine SW.g1 aw Zm af ht ?_|refine SW.skip ?_|refine SW.exit ?_|refine SW.ret ?_|refine SW.an rfl ?_|refine SW.ah rfl ?_))
   exact End.mk [] (h4:=⟨rfl,rfl⟩)
 have z1:((o.kind:Int) == 1)=false:=by simp;omega
 have e:fQ l (av l).at_ (av l).made o t=if !t then 276 else 0:=by
  unfold fQ;rw[g8,hc,z,hd,hcr,hh,hb,decide_eq_false h1];rfl
 rw[e];refine SW.g0 aw Zm z1 ?_;refine SW.ah rfl (SW.skip ?_);cases t
 ·(repeat (first|refine SW.seq ?_|refine SW.block ?_|refine SW.g1 aw Zm af ht ?_|refine SW.skip ?_|refine SW.exit ?_|refine SW.ret ?_|refine SW.an rfl ?_|refine SW.ah rfl ?_))
  exact End.mk [] (h4:=⟨rfl,rfl⟩)
 ·(repeat (first|refine SW.seq ?_|refine SW.block ?_|refine SW.g1 aw Zm af ht ?_|refine SW.skip ?_|refine SW.exit ?_|refine SW.ret ?_|refine SW.an rfl ?_|refine SW.ah rfl ?_))
  exact End.mk [] (h4:=⟨rfl,rfl⟩)
end
end
end Go.Proofs.YtaelhkkjgfobhaaGreat
namespace Go.Proofs.YtaelhkkjgfobhaaGreat
open Go.Sl Go.Proofs
section
theorem Mh {l:List ag}{o:ag}{ab:Bool}(h:o.kind=2):mS l (av l).at_ (av l).made o ab=(lP l (av l).at_ o.at_ o && ab):=by unfold mS;rw[if_pos h]
theorem Mi {l:List ag}{o:ag}{ab:Bool}(h:o.kind=4\/o.kind=5):mS l (av l).at_ (av l).made o ab=jg l (av l).at_ (av l).made o.at_ o:=by unfold mS;rw[if_neg (by omega),if_pos h]
theorem Mj {l:List ag}{o:ag}{ab:Bool}(h:o.kind=6\/o.kind=7):mS l (av l).at_ (av l).made o ab=mD l (av l).at_ (av l).made ⟨o.at_,o.j5⟩ o:=by unfold mS;rw[if_neg (by omega),if_neg (by omega),if_pos h]
theorem Mk {l:List ag}{o:ag}{ab:Bool}(h:o.kind=8):mS l (av l).at_ (av l).made o ab= !(o.cl.any λ c=> !mD l (av l).at_ (av l).made c o):=by unfold mS;rw[if_neg (by omega),if_neg (by omega),if_neg (by omega),if_pos h]
theorem Ml {l:List ag}{o:ag}{ab:Bool}(h:o.kind≠2/\ ¬ (4<=o.kind/\o.kind<=8)):mS l (av l).at_ (av l).made o ab=true:=by unfold mS;rw[if_neg (by omega),if_neg (by omega),if_neg (by omega),if_neg (by omega)]
section
attribute [local irreducible] SW RW aF SC ai ak
variable (l:List ag) (hl:l.length<1000000000) (hr:∀ x,x∈l->x.aT<256)
include hl hr
set_option maxHeartbeats 4000000 in
theorem Ju (o:ag)(h:o.kind≠2/\ ¬ (4<=o.kind/\o.kind<=8)):Go.Sl.Pure Tryz.prog ref17_target.f [ops l,.agg o.cells] (bl true):=by
 have q2:((o.kind:Int) == 2)=false:=by simp;omega
 have q4:((o.kind:Int) == 4)=false:=by simp;omega
 have q5:((o.kind:Int) == 5)=false:=by simp;omega
 have q6:((o.kind:Int) == 6)=false:=by simp;omega
 have q7:((o.kind:Int) == 7)=false:=by simp;omega
 have q8:((o.kind:Int) == 8)=false:=by simp;omega
 refine ref17_target.enter (by first|rfl|simp[SV.ok,SV.au]) (by first|rfl|simp[Hp.ok,Ob.ok,SV.ok,SV.au,aB.aj]) (by simp) ?_;dsimp only[ref17_target.s,Co.M,Co.G,Co.J,Co.H,Co.F,Co.C,Co.Z,Co.B,Co.b8,Co.ay,Co.bu,Co.i6,Co.T,Co.K,Co.E,Co.L,Co.R,Co.x,Co.W,Co.Y,Co.V,Co.U,Co.O,Co.D,Co.I,Co.S];(repeat (first|refine SW.seq ?_|refine SW.block ?_|refine SW.g0 ci Zm (Zq q2 (Zq q4 (Zq q5 (Zq q6 (Zq q7 q8))))) ?_|refine SW.skip ?_|refine SW.exit ?_|refine SW.ret ?_|refine SW.an rfl ?_|refine SW.ah rfl ?_));exact End.mk [] (h4:=⟨rfl,rfl⟩)
theorem Cf (o:ag)(ho:o.aT<256)(h:o.kind≠2/\ ¬ (4<=o.kind/\o.kind<=8))(k:Nat):aF Tryz.prog ref17_Why.f [ops l,.agg o.cells] [] k 0 (i64 (fB l o)) []:=by
 have:=(oZ l hl hr o ho true (λ k=>(Ju l hl hr o h).sc rfl k) (λ _=>rfl)).sc rfl k;unfold fB qF;rw[Ml h];exact this
set_option maxHeartbeats 4000000 in
theorem Dl (d c:Dt):Go.Sl.Pure Tryz.prog ref17_Line.f [ops l,.agg d.cells,.agg c.cells] (bl (oV l d c)):=by
 have hf:=oW l hl d;unfold oV;refine ref17_Line.enter (by first|rfl|simp[SV.ok,SV.au]) (by first|rfl|simp[Hp.ok,Ob.ok,SV.ok,SV.au,aB.aj]) (by simp) ?_;dsimp only[ref17_Line.s,Co.M,Co.G,Co.J,Co.H,Co.F,Co.C,Co.Z,Co.B,Co.b8,Co.bC,Co.K,Co.E,Co.Q,Co.x,Co.W,Co.U,Co.S];cases hh:aJ l d with
 | none=>
  rw[hh] at hf;(repeat (first|refine SW.seq ?_|refine SW.block ?_|refine SW.g1 dp Zm af hf ?_|refine SW.skip ?_|refine SW.exit ?_|refine SW.ret ?_|refine SW.an rfl ?_|refine SW.ah rfl ?_));exact End.mk [] (h4:=⟨rfl,rfl⟩)
 | some a=>
  rw[hh,bI hh] at hf;dsimp only
  by_cases h3:a.kind=3
  rotate_left
  .have z:((a.kind:Int) == 3)=false:=by simp;omega
   rw[decide_eq_false h3];(repeat (first|refine SW.seq ?_|refine SW.block ?_|refine SW.g1 dp Zm z hf ?_|refine SW.skip ?_|refine SW.exit ?_|refine SW.ret ?_|refine SW.an rfl ?_|refine SW.ah rfl ?_));exact End.mk [] (h4:=⟨rfl,rfl⟩)
  have z:((a.kind:Int) == 3)=true:=by rw[h3];rfl
  rw[decide_eq_true h3];have hw:=Cf l hl hr a (hr a (gd hh).1) (by omega);obtain⟨w,hww⟩:∃ w,fB l a=w:=⟨_,rfl⟩;rw[hww] at hw ⊢;have hz:((w:Int) == 0)=decide (w=0):=by rw[Bool.eq_iff_iff];simp
  rcases h2:decide (a.aI=c) with _|_
  ·(repeat (first|refine SW.seq ?_|refine SW.block ?_|refine SW.g2 dp Zm (Zq z h2) hf hw ?_|refine SW.skip ?_|refine SW.exit ?_|refine SW.ret ?_|refine SW.an rfl ?_|refine SW.ah rfl ?_))
   exact End.mk [] (h4:=⟨rfl,rfl⟩)
  ·(repeat (first|refine SW.seq ?_|refine SW.block ?_|refine SW.g2 dp Zm (Zq z (Zq h2 hz)) hf hw ?_|refine SW.skip ?_|refine SW.exit ?_|refine SW.ret ?_|refine SW.an rfl ?_|refine SW.ah rfl ?_))
   exact End.mk [] (h4:=⟨by simp only[Bool.true_and];rfl,rfl⟩)
theorem xG (d c:Dt)(k:Nat):aF Tryz.prog ref17_Line.f [ops l,.agg d.cells,.agg c.cells] [] k 0 (bl (oV l d c)) []:=(Dl l hl hr d c).sc rfl k
set_option maxHeartbeats 4000000 in
theorem Jv (o:ag)(h:o.kind=4\/o.kind=5):Go.Sl.Pure Tryz.prog ref17_target.f [ops l,.agg o.cells] (bl (jg l (av l).at_ (av l).made o.at_ o)):=by
 have hL:=xG l hl hr o.at_ o.aI;have hb:=yF l hl o.at_ o;rw[Ab];obtain⟨x,hx⟩:∃ x,oV l o.at_ o.aI=x:=⟨_,rfl⟩;obtain⟨y,hy⟩:∃ y,ji l o.at_ o=y:=⟨_,rfl⟩;rw[hx] at hL ⊢;rw[hy] at hb ⊢;have q2:((o.kind:Int) == 2)=false:=by simp;omega
 refine ref17_target.enter (by first|rfl|simp[SV.ok,SV.au]) (by first|rfl|simp[Hp.ok,Ob.ok,SV.ok,SV.au,aB.aj]) (by simp) ?_;dsimp only[ref17_target.s,Co.M,Co.G,Co.J,Co.H,Co.F,Co.C,Co.Z,Co.B,Co.b8,Co.ay,Co.bu,Co.i6,Co.T,Co.K,Co.E,Co.L,Co.R,Co.x,Co.W,Co.Y,Co.V,Co.U,Co.O,Co.D,Co.I,Co.S]
 by_cases h4:o.kind=4
 .have q4:((o.kind:Int) == 4)=true:=by rw[h4];rfl
  cases x
  ·(repeat (first|refine SW.seq ?_|refine SW.block ?_|refine SW.g2 ci Zm (Zq q2 q4) hL hb ?_|refine SW.skip ?_|refine SW.exit ?_|refine SW.ret ?_|refine SW.an rfl ?_|refine SW.ah rfl ?_))
   exact End.mk [] (h4:=⟨rfl,rfl⟩)
  ·(repeat (first|refine SW.seq ?_|refine SW.block ?_|refine SW.g2 ci Zm (Zq q2 q4) hL hb ?_|refine SW.skip ?_|refine SW.exit ?_|refine SW.ret ?_|refine SW.an rfl ?_|refine SW.ah rfl ?_))
   exact End.mk [] (h4:=⟨by simp only[Bool.true_and];rfl,rfl⟩)
 .have q4:((o.kind:Int) == 4)=false:=by simp;omega
  have q5:((o.kind:Int) == 5)=true:=by rw[h.resolve_left h4];rfl
  cases x
  ·(repeat (first|refine SW.seq ?_|refine SW.block ?_|refine SW.g2 ci Zm (Zq q2 (Zq q4 q5)) hL hb ?_|refine SW.skip ?_|refine SW.exit ?_|refine SW.ret ?_|refine SW.an rfl ?_|refine SW.ah rfl ?_))
   exact End.mk [] (h4:=⟨rfl,rfl⟩)
  ·(repeat (first|refine SW.seq ?_|refine SW.block ?_|refine SW.g2 ci Zm (Zq q2 (Zq q4 q5)) hL hb ?_|refine SW.skip ?_|refine SW.exit ?_|refine SW.ret ?_|refine SW.an rfl ?_|refine SW.ah rfl ?_))
   exact End.mk [] (h4:=⟨by simp only[Bool.true_and];rfl,rfl⟩)
theorem Ac (o:ag)(ho:o.aT<256)(h:o.kind=4\/o.kind=5)(k:Nat):aF Tryz.prog ref17_Why.f [ops l,.agg o.cells] [] k 0 (i64 (fB l o)) []:=by
 have:=(oZ l hl hr o ho _ (λ k=>(Jv l hl hr o h).sc rfl k) (λ h0=>by omega)).sc rfl k;unfold fB qF;rw[Mi h];exact this
set_option maxHeartbeats 4000000 in
theorem Dm (d v:Dt)(o:ag):Go.Sl.Pure Tryz.prog ref17_version.f [ops l,.agg d.cells,.agg v.cells,.agg o.cells] (bl (mD l (av l).at_ (av l).made ⟨d,v⟩ o)):=by
 have hL:=xG l hl hr d o.aI;have hb:=yF l hl d o;have hv:=yF l hl v o;have hf:=oW l hl v;rw[Jt];dsimp only;obtain⟨x,hx⟩:∃ x,oV l d o.aI=x:=⟨_,rfl⟩;obtain⟨y,hy⟩:∃ y,ji l d o=y:=⟨_,rfl⟩;rw[hx] at hL ⊢;rw[hy] at hb ⊢;refine ref17_version.enter (by first|rfl|simp[SV.ok,SV.au]) (by first|rfl|simp[Hp.ok,Ob.ok,SV.ok,SV.au,aB.aj]) (by simp) ?_;dsimp only[ref17_version.s,Co.M,Co.G,Co.J,Co.H,Co.F,Co.C,Co.Z,Co.B,Co.b8,Co.bC,Co.K,Co.E,Co.Q,Co.R,Co.x,Co.W,Co.U,Co.O,Co.D,Co.S];refine SW.seq (SW.g0 db Zm af ?_);refine SW.seq (SW.seq ?_);cases x
 .refine SW.g2 db Zm af hL hb ?_
  (repeat (first|refine SW.seq ?_|refine SW.block ?_|refine SW.g0 db Zm af ?_|refine SW.skip ?_|refine SW.exit ?_|refine SW.ret ?_|refine SW.an rfl ?_|refine SW.ah rfl ?_));exact End.mk [] (h4:=⟨rfl,rfl⟩)
 cases y
 .refine SW.g2 db Zm af hL hb ?_
  (repeat (first|refine SW.seq ?_|refine SW.block ?_|refine SW.g0 db Zm af ?_|refine SW.skip ?_|refine SW.exit ?_|refine SW.ret ?_|refine SW.an rfl ?_|refine SW.ah rfl ?_));exact End.mk [] (h4:=⟨rfl,rfl⟩)
 refine SW.g2 db Zm af hL hb ?_;refine SW.ah rfl (SW.skip (SW.seq (SW.seq ?_)));rcases e1:decide (v=d) with _|_
 rotate_left
 ·(repeat (first|refine SW.seq ?_|refine SW.block ?_|refine SW.g0 db Zm e1 ?_|refine SW.skip ?_|refine SW.exit ?_|refine SW.ret ?_|refine SW.an rfl ?_|refine SW.ah rfl ?_))
  exact End.mk [] (h4:=⟨rfl,rfl⟩)
 refine SW.g0 db Zm e1 ?_;refine SW.ah rfl (SW.skip ?_);cases hh:aJ l v with
 | none=>
  rw[hh] at hf;(repeat (first|refine SW.seq ?_|refine SW.block ?_|refine SW.g1 db Zm af hf ?_|refine SW.skip ?_|refine SW.exit ?_|refine SW.ret ?_|refine SW.an rfl ?_|refine SW.ah rfl ?_));exact End.mk [] (h4:=⟨rfl,rfl⟩)
 | some s=>
  rw[hh,bI hh] at hf;dsimp only
  by_cases h4:s.kind=4
  rotate_left
  .have z:((s.kind:Int) == 4)=false:=by simp;omega
   rw[decide_eq_false h4];(repeat (first|refine SW.seq ?_|refine SW.block ?_|refine SW.g1 db Zm z hf ?_|refine SW.skip ?_|refine SW.exit ?_|refine SW.ret ?_|refine SW.an rfl ?_|refine SW.ah rfl ?_));exact End.mk [] (h4:=⟨rfl,rfl⟩)
  have z:((s.kind:Int) == 4)=true:=by rw[h4];rfl
  rw[decide_eq_true h4];have hw:=Ac l hl hr s (hr s (gd hh).1) (.inl h4);obtain⟨w,hww⟩:∃ w,fB l s=w:=⟨_,rfl⟩;rw[hww] at hw ⊢;have hz:((w:Int) == 0)=decide (w=0):=by rw[Bool.eq_iff_iff];simp
  obtain⟨u,hu⟩:∃ u,ji l v o=u:=⟨_,rfl⟩;rw[hu] at hv ⊢;rcases h2:decide (s.at_=d) with _|_
  ·(repeat (first|refine SW.seq ?_|refine SW.block ?_|refine SW.g4 db Zm (Zq z h2) hf hv hw trivial ?_|refine SW.skip ?_|refine SW.exit ?_|refine SW.ret ?_|refine SW.an rfl ?_|refine SW.ah rfl ?_))
   exact End.mk [] (h4:=⟨rfl,rfl⟩)
  cases u
  ·(repeat (first|refine SW.seq ?_|refine SW.block ?_|refine SW.g4 db Zm (Zq z h2) hf hv hw trivial ?_|refine SW.skip ?_|refine SW.exit ?_|refine SW.ret ?_|refine SW.an rfl ?_|refine SW.ah rfl ?_))
   exact End.mk [] (h4:=⟨rfl,rfl⟩)
  ·(repeat (first|refine SW.seq ?_|refine SW.block ?_|refine SW.g4 db Zm (Zq z (Zq h2 hz)) hf hv hw trivial ?_|refine SW.skip ?_|refine SW.exit ?_|refine SW.ret ?_|refine SW.an rfl ?_|refine SW.ah rfl ?_))
   exact End.mk [] (h4:=⟨by simp only[Bool.true_and,Bool.false_or];rfl,rfl⟩)
theorem xH (d v:Dt)(o:ag)(k:Nat):aF Tryz.prog ref17_version.f [ops l,.agg d.cells,.agg v.cells,.agg o.cells] [] k 0 (bl (mD l (av l).at_ (av l).made ⟨d,v⟩ o)) []:=(Dm l hl hr d v o).sc rfl k
end
end
section
theorem yG {l:List Cm}{i:Nat}{x:Cm}(h:l[i]? =some x):List.take 2 (List.drop (i*4) (List.map SV.d (l.flatMap Cm.ds)))=x.line.cells:=by
 have:=ug h;rw[<- x.s0,<- this,List.take_take];rfl
theorem Bk {l:List Cm}{i:Nat}{x:Cm}(h:l[i]? =some x):List.take 2 (List.drop (i*4+2) (List.map SV.d (l.flatMap Cm.ds)))=x.j5.cells:=by
 have:=ug h;rw[<- x.s2,<- this,List.drop_take,List.take_take,List.drop_drop];rfl
theorem Ad {l:List Cm}{i:Nat}{x:Cm}(h:l[i]? =some x):(i*4+2<=(List.map SV.d (l.flatMap Cm.ds)).length)=True:=eq_true (by
 have:=of_eq_true (pR h);omega)
theorem Ae {l:List Cm}{i:Nat}{x:Cm}(h:l[i]? =some x):(i*4+2+2<=(List.map SV.d (l.flatMap Cm.ds)).length)=True:=eq_true (by
 have:=of_eq_true (pR h);omega)
section
attribute [local irreducible] SW RW aF SC ai ak
variable (l:List ag) (hl:l.length<1000000000) (hr:∀ x,x∈l->x.aT<256)
include hl hr
set_option maxHeartbeats 4000000 in
theorem Jw (o:ag)(h:o.kind=6\/o.kind=7):Go.Sl.Pure Tryz.prog ref17_target.f [ops l,.agg o.cells] (bl (mD l (av l).at_ (av l).made ⟨o.at_,o.j5⟩ o)):=by
 have hv:=xH l hl hr o.at_ o.j5 o;obtain⟨x,hx⟩:∃ x,mD l (av l).at_ (av l).made ⟨o.at_,o.j5⟩ o=x:=⟨_,rfl⟩;rw[hx] at hv ⊢;have q2:((o.kind:Int) == 2)=false:=by simp;omega
 have q4:((o.kind:Int) == 4)=false:=by simp;omega
 have q5:((o.kind:Int) == 5)=false:=by simp;omega
 refine ref17_target.enter (by first|rfl|simp[SV.ok,SV.au]) (by first|rfl|simp[Hp.ok,Ob.ok,SV.ok,SV.au,aB.aj]) (by simp) ?_;dsimp only[ref17_target.s,Co.M,Co.G,Co.J,Co.H,Co.F,Co.C,Co.Z,Co.B,Co.b8,Co.ay,Co.bu,Co.i6,Co.T,Co.K,Co.E,Co.L,Co.R,Co.x,Co.W,Co.Y,Co.V,Co.U,Co.O,Co.D,Co.I,Co.S]
 by_cases h6:o.kind=6
 .have q6:((o.kind:Int) == 6)=true:=by rw[h6];rfl
  (repeat (first|refine SW.seq ?_|refine SW.block ?_|refine SW.g1 ci Zm (Zq q2 (Zq q4 (Zq q5 q6))) hv ?_|refine SW.skip ?_|refine SW.exit ?_|refine SW.ret ?_|refine SW.an rfl ?_|refine SW.ah rfl ?_));exact End.mk [] (h4:=⟨rfl,rfl⟩)
 .have q6:((o.kind:Int) == 6)=false:=by simp;omega
  have q7:((o.kind:Int) == 7)=true:=by rw[h.resolve_left h6];rfl
  (repeat (first|refine SW.seq ?_|refine SW.block ?_|refine SW.g1 ci Zm (Zq q2 (Zq q4 (Zq q5 (Zq q6 q7)))) hv ?_|refine SW.skip ?_|refine SW.exit ?_|refine SW.ret ?_|refine SW.an rfl ?_|refine SW.ah rfl ?_));exact End.mk [] (h4:=⟨rfl,rfl⟩)
set_option maxHeartbeats 4000000 in
theorem Jx (o:ag)(h:o.kind=2):Go.Sl.Pure Tryz.prog ref17_target.f [ops l,.agg o.cells] (bl (lP l (av l).at_ o.at_ o && fA (av l).at_ o.aN o.at_ (lM (av l).at_ o.at_))):=by
 have hc:=xF l hl hr o.at_ o;obtain⟨L,hL,hlen,_⟩:=(dF l).sP o.at_;have ha:=De (by omega) hr (dF l) o.aN o.at_ L hL (by omega);rw[fI hL];obtain⟨x,hx⟩:∃ x,lP l (av l).at_ o.at_ o=x:=⟨_,rfl⟩;obtain⟨y,hy⟩:∃ y,fA (av l).at_ o.aN o.at_ L=y:=⟨_,rfl⟩;obtain⟨c,hcc⟩:∃ c,(bH l 10 o.at_).1=c:=⟨_,rfl⟩;rw[hx,hcc] at hc;rw[hx,hy];rw[hy] at ha;have q2:((o.kind:Int) == 2)=true:=by rw[h];rfl
 refine ref17_target.enter (by first|rfl|simp[SV.ok,SV.au]) (by first|rfl|simp[Hp.ok,Ob.ok,SV.ok,SV.au,aB.aj]) (by simp) ?_;dsimp only[ref17_target.s,Co.M,Co.G,Co.J,Co.H,Co.F,Co.C,Co.Z,Co.B,Co.b8,Co.ay,Co.bu,Co.i6,Co.T,Co.K,Co.E,Co.L,Co.R,Co.x,Co.W,Co.Y,Co.V,Co.U,Co.O,Co.D,Co.I,Co.S];cases x
 ·(repeat (first|refine SW.seq ?_|refine SW.block ?_|refine SW.g2 ci Zm q2 hc ha ?_|refine SW.skip ?_|refine SW.exit ?_|refine SW.ret ?_|refine SW.an rfl ?_|refine SW.ah rfl ?_))
  exact End.mk [] (h4:=⟨rfl,rfl⟩)
 ·(repeat (first|refine SW.seq ?_|refine SW.block ?_|refine SW.g2 ci Zm q2 hc ha ?_|refine SW.skip ?_|refine SW.exit ?_|refine SW.ret ?_|refine SW.an rfl ?_|refine SW.ah rfl ?_))
  exact End.mk [] (h4:=⟨by simp only[Bool.true_and];rfl,rfl⟩)
set_option maxHeartbeats 4000000 in
theorem Jy (o:ag)(h:o.kind=8)(yw:o.mZ):Go.Sl.Pure Tryz.prog ref17_target.f [ops l,.agg o.cells] (bl (!(o.cl.any λ c=> !mD l (av l).at_ (av l).made c o))):=by
 have q2:((o.kind:Int) == 2)=false:=by simp;omega
 have q4:((o.kind:Int) == 4)=false:=by simp;omega
 have q5:((o.kind:Int) == 5)=false:=by simp;omega
 have q6:((o.kind:Int) == 6)=false:=by simp;omega
 have q7:((o.kind:Int) == 7)=false:=by simp;omega
 have q8:((o.kind:Int) == 8)=true:=by rw[h];rfl
 have hle:=yw.eq;have hll:=yw.le;refine ref17_target.enter (by first|rfl|simp[SV.ok,SV.au]) (by first|rfl|simp[Hp.ok,Ob.ok,SV.ok,SV.au,aB.aj]) (by simp) ?_;dsimp only[ref17_target.s,Co.M,Co.G,Co.J,Co.H,Co.F,Co.C,Co.Z,Co.B,Co.b8,Co.ay,Co.bu,Co.i6,Co.T,Co.K,Co.E,Co.L,Co.R,Co.x,Co.W,Co.Y,Co.V,Co.U,Co.O,Co.D,Co.I,Co.S];(repeat (first|refine SW.seq ?_|refine SW.block ?_|refine SW.g0 ci Zm (Zq q2 (Zq q4 (Zq q5 (Zq q6 (Zq q7 q8))))) ?_|refine SW.skip ?_|refine SW.exit ?_|refine SW.ret ?_|refine SW.an rfl ?_|refine SW.ah rfl ?_));refine SW.lG (α:={j:Nat // j<=o.cl.length/\∀ c,c∈o.cl.take j->mD l (av l).at_ (av l).made c o=true}) (λ j=>⟨[(7,i64 j.1),(3,.ptr 0 0),(0,ops l)],[(0,.box 43 o.cells)],1⟩) (λ j=>o.cl.length - j.1) ⟨0,by omega,by simp⟩ id af (round:= ?_);rintro⟨j,hj,hall⟩;dsimp only;refine SW.seq (SW.seq ?_)
 by_cases hjl:j<o.cl.length
 .have j1:decide ((j:Int)<o.cl.length)=true:=by simp only[decide_eq_true_eq];omega
  obtain⟨y,hy⟩:=aP hjl;have j2:IntKind.i64.wrap ((j:Int)+1)=((j+1:Nat):Int):=wrap_i64 _ (by omega);have hv:=xH l hl hr y.line y.j5 o;refine SW.g0 ci Zm (Zq hle j1) ?_;refine SW.an rfl (SW.skip (SW.seq (SW.block (SW.seq ?_))));rcases hc:mD l (av l).at_ (av l).made y o with _|_
  .rw[show(⟨y.line,y.j5⟩:Cm)=y from rfl,hc] at hv
   refine SW.g1 ci Zm (Zq hle (Zq (yG hy) (Zq (Ad hy) (Zq (Bk hy) (Ae hy))))) hv ?_;have e:(o.cl.any λ c=> !mD l (av l).at_ (av l).made c o)=true:=by
    rw[List.any_eq_true];exact⟨y,List.mem_of_getElem? hy,by rw[hc];rfl⟩
   rw[e];(repeat (first|refine SW.seq ?_|refine SW.block ?_|refine SW.g0 ci Zm af ?_|refine SW.skip ?_|refine SW.exit ?_|refine SW.ret ?_|refine SW.an rfl ?_|refine SW.ah rfl ?_));exact End.mk [] (h4:=⟨rfl,rfl⟩)
  .rw[show(⟨y.line,y.j5⟩:Cm)=y from rfl,hc] at hv
   refine SW.g1 ci Zm (Zq hle (Zq (yG hy) (Zq (Ad hy) (Zq (Bk hy) (Ae hy))))) hv ?_;refine SW.ah rfl (SW.skip ?_);refine SW.g0 ci Zm j2 ?_;dsimp only;exact⟨⟨j+1,by omega,λ c yT=>by
    rw[bt hy] at yT;rcases List.mem_append.1 yT with yT|yT
    .exact hall c yT
    .rw[List.mem_singleton.1 yT];exact hc⟩,id,by show o.cl.length - (j+1)<_;omega,aH.mk af⟩
 .have j1:decide ((j:Int)<o.cl.length)=false:=by simp only[decide_eq_false_iff_not];omega
  have e:(o.cl.any λ c=> !mD l (av l).at_ (av l).made c o)=false:=by
   rw[List.any_eq_false];intro c hc;rw[hall c (by rw[List.take_of_length_le (by omega)];exact hc)];simp
  rw[e];refine SW.g0 ci Zm (Zq hle j1) ?_;refine SW.ah rfl (SW.exit ?_);(repeat (first|refine SW.seq ?_|refine SW.block ?_|refine SW.g0 ci Zm af ?_|refine SW.skip ?_|refine SW.exit ?_|refine SW.ret ?_|refine SW.an rfl ?_|refine SW.ah rfl ?_));exact End.mk [] (h4:=⟨rfl,rfl⟩)
theorem Gx (o:ag)(ho:o.aT<256)(yw:o.mZ)(k:Nat):aF Tryz.prog ref17_Why.f [ops l,.agg o.cells] [] k 0 (i64 (fB l o)) []:=by
 by_cases hn:o.kind≠2/\ ¬ (4<=o.kind/\o.kind<=8)
 .exact Cf l hl hr o ho hn k
 by_cases h4:o.kind=4\/o.kind=5
 .exact Ac l hl hr o ho h4 k
 by_cases h2:o.kind=2
 .have:=(oZ l hl hr o ho _ (λ k=>(Jx l hl hr o h2).sc rfl k) (λ h0=>by omega)).sc rfl k
  unfold fB qF;rw[Mh h2];exact this
 by_cases h6:o.kind=6\/o.kind=7
 .have:=(oZ l hl hr o ho _ (λ k=>(Jw l hl hr o h6).sc rfl k) (λ h0=>by omega)).sc rfl k
  unfold fB qF;rw[Mj h6];exact this
 have h8:o.kind=8:=by omega
 have:=(oZ l hl hr o ho _ (λ k=>(Jy l hl hr o h8 yw).sc rfl k) (λ h0=>by omega)).sc rfl k;unfold fB qF;rw[Mk h8];exact this
end
end
section
section
attribute [local irreducible] SW RW aF SC ai ak
variable (l:List ag) (hl:l.length<=80) (hd:∀ x,x∈l->x.aT<256/\x.mZ/\x.dot.wf)
include hl hd
set_option maxHeartbeats 4000000 in
theorem Dn (d:Dt):Go.Sl.Pure Tryz.prog ref17_Good.f [ops l,.agg d.cells] (bl (match aJ l d with
  | some o=>decide (fB l o=0)
  | none=>false)):=by
 have hf:=oW l (by omega) d;refine ref17_Good.enter (by first|rfl|simp[SV.ok,SV.au]) (by first|rfl|simp[Hp.ok,Ob.ok,SV.ok,SV.au,aB.aj]) (by simp) ?_;dsimp only[ref17_Good.s,Co.M,Co.G,Co.J,Co.H,Co.F,Co.C,Co.Z,Co.B,Co.bC,Co.K,Co.E,Co.Q,Co.x,Co.W,Co.U,Co.S];cases hh:aJ l d with
 | none=>
  rw[hh] at hf;(repeat (first|refine SW.seq ?_|refine SW.block ?_|refine SW.g1 io Zm af hf ?_|refine SW.skip ?_|refine SW.exit ?_|refine SW.ret ?_|refine SW.an rfl ?_|refine SW.ah rfl ?_));exact End.mk [] (h4:=⟨rfl,rfl⟩)
 | some o=>
  rw[hh,bI hh] at hf;have ho:=hd o (gd hh).1;have hw:=Gx l (by omega) (λ x hx=>(hd x hx).1) o ho.1 ho.2.1;dsimp only;obtain⟨w,hww⟩:∃ w,fB l o=w:=⟨_,rfl⟩;rw[hww] at hw ⊢;have hz:((w:Int) == 0)=decide (w=0):=by rw[Bool.eq_iff_iff];simp
  (repeat (first|refine SW.seq ?_|refine SW.block ?_|refine SW.g2 io Zm hz hf hw ?_|refine SW.skip ?_|refine SW.exit ?_|refine SW.ret ?_|refine SW.an rfl ?_|refine SW.ah rfl ?_));exact End.mk [] (h4:=⟨rfl,rfl⟩)
theorem Dp (d:Dt)(k:Nat):aF Tryz.prog ref17_Good.f [ops l,.agg d.cells] [] k 0 (bl (match aJ l d with
  | some o=>decide (fB l o=0)
  | none=>false)) []:=(Dn l hl hd d).sc rfl k
end
end
end Go.Proofs.YtaelhkkjgfobhaaGreat
namespace Go.Proofs.YtaelhkkjgfobhaaGreat
open Go.Sl Go.Proofs
section
attribute [local irreducible] SW RW aF SC ai ak
structure Gy {σ:Type}(Fh:σ->Hp)(Step:σ->Dt->σ->Prop)(go:σ->Bool)(aX b m k:Nat)(L:(MM Dt ag))(s0 s:σ)(xs:(MM Dt ag))(kk:Nat):Prop where
 p1:lY Step s0 (MM.keys xs) s
 p2:go s=true
 p3:∀ x,x∈xs->x∈L
 p4:(xs.map (·.1)).Nodup
 p5:k+1<=kk
 p6:kk<=k+1+xs.length*(1+aX)
 p7:(Fh s).ok (λ n=>decide (n<kk))=true
 p8:lk (Fh s) b=none
 p9:lk (Fh s) m=none
 C9:lk (Fh s) k=none
set_option maxHeartbeats 1000000 in
theorem Dq {σ:Type}{Fh:σ->Hp}{Step:σ->Dt->σ->Prop}{go:σ->Bool}{aX y b m k c:Nat}{L:(MM Dt ag)}(hwf:MM.wf L c)(s0:σ)(hy:pJ Tryz.prog y (λ x:Dt=> .agg x.cells) aX Fh Step go s0 L.length)(h0:(Fh s0).ok (λ n=>decide (n<k))=true)
  (hb:b<k) (hm:m<k) (Ma:b≠m) (hdb:lk (Fh s0) b=none) (N5:lk (Fh s0) m=none) (sx:go s0=true):
  SB Tryz.prog maps_Keys_map_api_Dot_api_Op_api_Dot_api_Op_1.f [.yl y,.ptr b 0] ((b,.box 107 [.mp m])::(m,.map (aq Dt.cells ov L) c)::Fh s0) k (1+L.length*(1+aX))
   λ r F=>r= .de []/\∃ (xs:(MM Dt ag)) (s':σ),lY Step s0 (MM.keys xs) s'/\(∀ x,x∈xs->x∈L)/\(xs.map (·.1)).Nodup/\(go s'=true->∀ x,x∈L->x∈xs)/\(lk (Fh s') b=none/\lk (Fh s') m=none)/\F=(b,.box 107 [.mp m])::(m,.map (aq Dt.cells ov L) c)::Fh s':=by
 have hyk:y<k:=by
  obtain⟨ob,ho⟩:=Option.ne_none_iff_exists'.1 (hy.u5 s0)
  simpa using(Hp.fC h0 ho).1
 refine maps_Keys_map_api_Dot_api_Op_api_Dot_api_Op_1.enter (by simp[SV.ok,SV.au];omega) (by simp only[Hp.ok,List.all_cons,Ob.ok,SV.au,SV.ok,bF,Bool.and_true,Bool.and_eq_true,decide_eq_true_eq];exact⟨⟨hb,hm⟩,hm,h0⟩) (by simp) ?_;dsimp only[maps_Keys_map_api_Dot_api_Op_api_Dot_api_Op_1.s,Co.M,Co.J,Co.F,Co.b8,Co.ay,Co.T,Co.K,Co.E,Co.W,Co.O,Co.S];have f1:=bX (show m≠b by omega);have f2:=bX (show k≠b by omega);have f3:=bX (show k≠m by omega);have f4:List.lookup k (Fh s0)=none:=by
  cases hh:lk (Fh s0) k with
  | none=>exact hh
  | some ob=>have:=(Hp.fC h0 hh).1;simp at this
 refine SW.seq ?_;refine SW.g0 ld Zm (Zq f1 (Zq f2 (Zq f3 f4))) ?_;refine SW.block (SW.pK (es:=λ _=>aq Dt.cells ov L) (c:=λ _=>c) (uc:=λ _=>k) (nm:=λ _=>m) (since:=λ _=>c) (A1:=λ _=>c)
  (α:={i:σ×(MM Dt ag)×Nat // Gy Fh Step go aX b m k L s0 i.1 i.2.1 i.2.2})
  (λ i=>⟨[(5,.it k),(0,.yl y),(1,.ptr b 0)],(k,.iter (some m) c (i.1.2.1.map (·.1)) c)::(b,.box 107 [.mp m])::(m,.map (aq Dt.cells ov L) c)::Fh i.1.1,i.1.2.2⟩)
  (λ i=>gC (aq Dt.cells ov L) (i.1.2.1.map (·.1))) ⟨(s0,[],k+1),⟨.nil,sx,by simp,by simp,by simp,by simp,Hp.bM (by simp) h0,hdb,N5,f4⟩⟩ id (seen:=λ i=>i.1.2.1.map (·.1)) ?_ (λ i=>by simp[List.lookup]) (λ i=>by simp[aa]) (λ i=> ?_) (λ i=>by omega) (λ i e he=> ?_) (λ i=>Nat.le_refl _) (λ i hall=> ?_) (λ i e he hs=> ?_))
 .refine aH.same (by simp) (by simp[aL,lX,List.lookup,SV.aC,SV.ok];omega) ?_ ?_
  .simp only[Hp.ok,List.all_cons,Ob.ok,SV.au,SV.ok,bF,Bool.and_true,Bool.and_eq_true,decide_eq_true_eq]
   exact⟨⟨by omega,by omega⟩,⟨by omega,by omega⟩,by omega,Hp.bM (by simp) h0⟩
  .intro x hx
   simp only[List.mem_cons] at hx;rcases hx with rfl|rfl|rfl|hx
   .simp[aa]
   .simp[aa,f1,f2,f3]
   .simp[aa,f1,f2,f3]
   .have:=hy.nd s0 x hx
    have h1:x.1≠k:=λ e=>by rw[e] at this;rw[show lk (Fh s0) k=none from f4] at this;cases this
    have h2:x.1≠b:=λ e=>by rw[e,hdb] at this;cases this
    have h3:x.1≠m:=λ e=>by rw[e,N5] at this;cases this
    simp[aa,h1,h2,h3,this]
 .simp[aa,f1,f2,f3]
 .obtain⟨x,hx,rfl⟩:=eF he
  exact hwf.old x hx
 .obtain⟨⟨s,xs,kk⟩,hi⟩:=i
  have hi:Gy Fh Step go aX b m k L s0 s xs kk:=hi;have hi':=hi;obtain⟨p1,p2,p3,p4,p5,p6,p7,p8,p9,C9⟩:=hi';dsimp only at*;have hsub:xs.length<=L.length:=by
   have:=p4.length_le_of_subset (l₂:=L.map (·.1)) (λ t ht=>by
    obtain⟨x,hx,rfl⟩:=List.mem_map.1 ht;exact List.mem_map.2 ⟨x,p3 x hx,rfl⟩)
   simpa using this
  have hmul:xs.length*(1+aX)<=L.length*(1+aX):=Nat.mul_le_mul_right _ hsub;have hhp:∀ kx,kk<=kx->Hp.ok (λ n=>decide (n<kx)) ((b,Ob.box 107 [.mp m])::(m,.map (aq Dt.cells ov L) c)::Fh s)=true:=λ kx hkx=>by
   simp only[Hp.ok,List.all_cons,Ob.ok,SV.au,SV.ok,bF,Bool.and_true,Bool.and_eq_true,decide_eq_true_eq];exact⟨⟨by omega,by omega⟩,by omega,Hp.bM hkx p7⟩
  refine⟨⟨[],(b,.box 107 [.mp m])::(m,.map (aq Dt.cells ov L) c)::Fh s,k+(1+L.length*(1+aX))⟩,id,aH.same (Nat.le_add_right _ _) trivial (hhp _ (by show kk<=k+(1+L.length*(1+aX));omega)) ?_,?_⟩
  .intro x hx
   simp only[List.mem_cons] at hx;rcases hx with rfl|rfl|hx
   .simp[aa,f1,f2,f3]
   .simp[aa,f1,f2,f3]
   .have:=hy.nd s x hx
    have h1:x.1≠k:=λ e=>by rw[e,C9] at this;cases this
    have h2:x.1≠b:=λ e=>by rw[e,p8] at this;cases this
    have h3:x.1≠m:=λ e=>by rw[e,p9] at this;cases this
    simp[aa,h1,h2,h3,this]
  .rw[if_pos rfl]
   refine End.mk ((b,.box 107 [.mp m])::(m,.map (aq Dt.cells ov L) c)::Fh s) (h3:=λ _ _ h=>h) (h4:=⟨rfl,xs,s,p1,p3,p4,λ _ x hx=> ?_,⟨p8,p9⟩,rfl⟩) (h6:=hhp _ (by omega)) (h7:=Nat.le_refl _);have:=hall _ (List.mem_map.2 ⟨x,hx,rfl⟩);simp only[List.contains_iff_mem] at this;obtain⟨z,hz,e⟩:=List.mem_map.1 this;have:z=x:=MM.rz hwf.times (p3 z hz) hx e;rw[<- this];exact hz
 .obtain⟨⟨s,xs,kk⟩,hi⟩:=i
  have hi:Gy Fh Step go aX b m k L s0 s xs kk:=hi;have hi':=hi;obtain⟨p1,p2,p3,p4,p5,p6,p7,p8,p9,C9⟩:=hi';dsimp only at*;obtain⟨x,hx,rfl⟩:=eF he;dsimp only at hs;have g1:=bX (show kk≠k by omega);have g2:=bX (show kk≠b by omega);have g3:=bX (show kk≠m by omega);have g4:List.lookup kk (Fh s)=none:=Hp.out p7 (Nat.le_refl _);have g5:(xs.map (·.1)++[x.1]).getLast? =some x.1:=by simp
  have g6:=kG (kc:=Dt.cells) (vs:=ov) hwf.times hx;rw[je];dsimp only;refine SW.block (SW.seq (SW.g0 ld Zm (Zq f1 (Zq f2 (Zq f3 (Zq g1 (Zq g2 (Zq g3 (Zq g4 (Zq g5 g6)))))))) ?_));refine SW.seq (SW.xd ?_);(repeat (first|refine bq.op (Zq g1 (Zq g2 g3)) (h:=?_)|refine bq.di (Zq g1 (Zq g2 g3)) (h:=?_)|refine bq.skip (h:=?_)));have hokk:(Fh s).ok (λ n=>decide (n<kk+1))=true:=Hp.bM (by omega) p7;have oH:∀ s',(∀ n,lk (Fh s') n≠none->lk (Fh s) n≠none\/(kk+1<=n/\n<kk+1+aX))->lk (Fh s') b=none/\lk (Fh s') m=none/\lk (Fh s') k=none:=λ s' h=>by
   refine⟨?_,?_,?_⟩
   .exact Classical.byContradiction λ hn=>(h b hn).elim (λ h=>h p8) (λ h=>by omega)
   .exact Classical.byContradiction λ hn=>(h m hn).elim (λ h=>h p9) (λ h=>by omega)
   .exact Classical.byContradiction λ hn=>(h k hn).elim (λ h=>h C9) (λ h=>by omega)
  have hxs:x∉xs:=λ h=>by
   have:(xs.map (·.1)).contains x.1=true:=by simp only[List.contains_iff_mem];exact List.mem_map.2 ⟨x,h,rfl⟩
   rw[this] at hs;cases hs
  have hxt:x.1∉xs.map (·.1):=λ h=>by
   have:(xs.map (·.1)).contains x.1=true:=by simpa only[List.contains_iff_mem] using h
   rw[this] at hs;cases hs
  have q3:∀ z,z∈xs++[x]->z∈L:=λ z hz=>by
   rcases List.mem_append.1 hz with hz|hz
   .exact p3 z hz
   .rw[List.mem_singleton.1 hz];exact hx
  have q4:((xs++[x]).map (·.1)).Nodup:=by
   rw[List.map_append,List.nodup_append];refine⟨p4,by simp,λ a ha b' hb'=> ?_⟩;simp only[List.map_cons,List.map_nil,List.mem_singleton] at hb';intro e;exact hxt (by rw[<- hb',<- e];exact ha)
  have hsub2:(xs++[x]).length<=L.length:=by
   have:=q4.length_le_of_subset (l₂:=L.map (·.1)) (λ t ht=>by
    obtain⟨z,hz,rfl⟩:=List.mem_map.1 ht;exact List.mem_map.2 ⟨z,q3 z hz,rfl⟩)
   simpa using this
  have hlt:(MM.keys xs).length<L.length:=by
   simp only[List.length_append,List.length_singleton] at hsub2;simp only[MM.keys,List.length_map];omega
  have hsub:HSub (Fh s) ((kk,Ob.box 37 x.2.1.cells)::(k,Ob.iter (some m) c (xs.map (·.1)++[x.1]) c)::(b,Ob.box 107 [.mp m])::(m,.map (aq Dt.cells ov L) c)::Fh s):=λ n ob hn=>by
   have h1:n≠k:=λ e=>by rw[e,C9] at hn;cases hn
   have h2:n≠b:=λ e=>by rw[e,p8] at hn;cases hn
   have h3:n≠m:=λ e=>by rw[e,p9] at hn;cases hn
   have h4:n≠kk:=λ e=>by rw[e,show lk (Fh s) kk=none from g4] at hn;cases hn
   simp[aa,h1,h2,h3,h4,hn]
  refine bq.yield (by simp only[ev,List.lookup,Nat.reduceBEq]<;>rfl) (by simp only[ev,qc,List.lookup,Nat.reduceBEq]<;>rfl) (hy.u5 s) (hy.call s _ x.2.1 (kk+1) p1 hlt hokk p2) hsub ?_;rintro v F' ⟨s',hstep,rfl,rfl,hok',hnm⟩;obtain⟨n1,n2,n3⟩:=oH s' hnm;rw[iW];show bq Tryz.prog 14 k _ ⟨(12,.d (.bool (go s')))::_,_,_⟩ _;(repeat (first|refine bq.op af (h:=?_)|refine bq.di af (h:=?_)|refine bq.skip (h:=?_)));refine bq.nil ?_;have hlk:=iI (ro:=false) hsub (F':=Fh s') (λ h=>by cases h);have hhp:∀ kx,kk+1+aX<=kx->Hp.ok (λ n=>decide (n<kx)) ((b,Ob.box 107 [.mp m])::(m,.map (aq Dt.cells ov L) c)::Fh s')=true:=λ kx hkx=>by
   simp only[Hp.ok,List.all_cons,Ob.ok,SV.au,SV.ok,bF,Bool.and_true,Bool.and_eq_true,decide_eq_true_eq];exact⟨⟨by omega,by omega⟩,by omega,Hp.bM hkx hok'⟩
  have hin:∀ z,z∈((b,Ob.box 107 [.mp m])::(m,.map (aq Dt.cells ov L) c)::Fh s')->AA (lk ((kk,Ob.box 37 x.2.1.cells)::(k,Ob.iter (some m) c (xs.map (·.1)++[x.1]) c)::(b,Ob.box 107 [.mp m])::(m,.map (aq Dt.cells ov L) c)::Fh s)) (lk (Fh s)) (lk (Fh s')) z.1=some z.2:=by
   intro z hz;simp only[List.mem_cons] at hz;rcases hz with rfl|rfl|hz
   .rw[dH p8 n1];simp[aa,f1,f2,f3,g1,g2,g3]
   .rw[dH p9 n2];simp[aa,f1,f2,f3,g1,g2,g3]
   .have:=hy.nd s' z hz
    rw[fm (.inr (by rw[this];simp)),this]
  have q1:lY Step s0 (MM.keys (xs++[x])) s':=by
   have:=lY.snoc p1 hstep
   simpa[MM.keys] using this
  have q6:kk+1+aX<=k+1+(xs++[x]).length*(1+aX):=by
   have e:(xs++[x]).length*(1+aX)=xs.length*(1+aX)+(1+aX):=by rw[List.length_append,List.length_singleton,Nat.add_mul,Nat.one_mul]
   rw[e];omega
  have hmul:(xs++[x]).length*(1+aX)<=L.length*(1+aX):=Nat.mul_le_mul_right _ hsub2;cases hg:go s' with
  | true=>
   refine SW.ah (by simp[ev,List.lookup,hg]) (SW.skip ?_);refine⟨⟨(s',xs++[x],kk+1+aX),q1,hg,q3,q4,by show k+1<=kk+1+aX;omega,q6,hok',n1,n2,n3⟩,id,?_,aH.same (by show k<=kk+1+aX;omega) (by simp[aL,List.lookup,SV.aC,SV.ok];omega) ?_ ?_⟩
   .have:=kH he hs
    simpa using this
   .have:=hhp (kk+1+aX) (Nat.le_refl _)
    simp only[Hp.ok,List.all_cons,Ob.ok,Bool.and_eq_true,decide_eq_true_eq] at this ⊢;exact⟨⟨by omega,by omega⟩,this⟩
   .intro z hz
    rcases List.mem_cons.1 hz with rfl|hz
    .have:lk (bU false ((kk,Ob.box 37 x.2.1.cells)::(k,Ob.iter (some m) c (xs.map (·.1)++[x.1]) c)::(b,Ob.box 107 [.mp m])::(m,.map (aq Dt.cells ov L) c)::Fh s) (Fh s) (Fh s')) k=some (.iter (some m) c (xs.map (·.1)++[x.1]) c):=by
      rw[hlk,dH C9 n3];simp[aa,g1]
     simpa[bU] using this
    .have:lk (bU false ((kk,Ob.box 37 x.2.1.cells)::(k,Ob.iter (some m) c (xs.map (·.1)++[x.1]) c)::(b,Ob.box 107 [.mp m])::(m,.map (aq Dt.cells ov L) c)::Fh s) (Fh s) (Fh s')) z.1=some z.2:=by
      rw[hlk];exact hin z hz
     exact this
  | false=>
   refine SW.an (by simp[ev,List.lookup,hg]) ?_;refine SW.weak id (st1:=⟨[],(b,.box 107 [.mp m])::(m,.map (aq Dt.cells ov L) c)::Fh s',k+(1+L.length*(1+aX))⟩) (aH.same (Nat.le_add_right _ _) trivial (hhp _ (by show kk+1+aX<=k+(1+L.length*(1+aX));omega)) λ z hz=> ?_) (SW.ret ?_)
   .have:lk (bU false ((kk,Ob.box 37 x.2.1.cells)::(k,Ob.iter (some m) c (xs.map (·.1)++[x.1]) c)::(b,Ob.box 107 [.mp m])::(m,.map (aq Dt.cells ov L) c)::Fh s) (Fh s) (Fh s')) z.1=some z.2:=by
     rw[hlk];exact hin z hz
    exact this
   .refine End.mk ((b,.box 107 [.mp m])::(m,.map (aq Dt.cells ov L) c)::Fh s') (h3:=λ _ _ h=>h) (h4:=⟨rfl,xs++[x],s',q1,q3,q4,λ (h:go s'=true)=>absurd h (by rw[hg];decide),⟨n1,n2⟩,rfl⟩) (h6:=hhp _ (by omega)) (h7:=Nat.le_refl _)
end
section
attribute [local irreducible] SW RW aF SC ai ak
theorem wD {L xs:(MM Dt ag)}{c:Nat}(hwf:MM.wf L c)(h1:∀ x,x∈xs->x∈L)(h2:(xs.map (·.1)).Nodup)(h3:∀ x,x∈L->x∈xs):(MM.keys xs).Perm (MM.keys L):=
 ((List.perm_ext_iff_of_nodup (jo _ h2) (jo _ hwf.times)).2 λ a=>⟨h1 a,h3 a⟩).map _
def fS (b m:Nat)(L:(MM Dt ag))(c:Nat):Hp:=[(b,.box 107 [.mp m]),(m,.map (aq Dt.cells ov L) c)]
set_option maxHeartbeats 1000000 in
theorem wE {L:(MM Dt ag)}{c:Nat}(hwf:MM.wf L c)(hL:L.length<1000000000):
  SB Tryz.prog slices_AppendSeq_Lapi_Dot_api_Dot.f [.d .aG,.fn (.func maps_Keys_map_api_Dot_api_Op_api_Dot_api_Op_1.f) [] [.ptr 0 0]] (fS 0 1 L c) 2 1
   λ r F=>r= .gs 2 L.length/\∃ l:List Dt,l.Perm (MM.keys L)/\F=(2,.arr 37 2 L.length ((l.flatMap Dt.ds).map .d))::fS 0 1 L c:=by
 refine slices_AppendSeq_Lapi_Dot_api_Dot.enter (by simp[SV.ok,SV.au]) (by simp[fS,Hp.ok,Ob.ok,SV.au,SV.ok,bF]) (by simp) ?_;dsimp only[slices_AppendSeq_Lapi_Dot_api_Dot.s,Co.M,Co.J,Co.F,Co.b8,Co.ay,Co.T,Co.K,Co.x,Co.W,Co.S];refine SW.iN 0 37 2 rfl ?_;simp only[fS];refine SW.seq (SW.g0 fX Zm af ?_);refine SW.seq (SW.seq (SW.g0 fX Zm af ?_));refine SW.block (SW.sD (nk:=1+L.length*(1+2)) [2] [.ptr 3 0] rfl ⟨rfl,trivial⟩ λ ca cb hca hcb=> ?_)
 let s0:C_ 4 3:=⟨[],2,by decide,by decide⟩
 have hy:=vr (y:=4) (bx:=3) (B:=L.length) (by decide) s0 (by simp[s0];omega) hca hcb;have hsb:=Dq (y:=4) (b:=0) (m:=1) (k:=5) hwf s0 hy (by simp[eO,s0,Hp.ok,Ob.ok,SV.au,SV.ok]) (by decide) (by decide) (by decide) (by simp[eO,s0,aa,bA]) (by simp[eO,s0,aa,bA]) rfl;have hsubF:HSub ((0,.box 107 [.mp 1])::(1,.map (aq Dt.cells ov L) c)::eO 4 3 13 [2] [7] ca cb s0) ((4,.p0 13 [2] [.ptr 3 0] [7] ca cb .ready none)::[(3,.box 31 [.gs 2 0]),(2,.arr 37 2 0 []),(0,.box 107 [.mp 1]),(1,.map (aq Dt.cells ov L) c)]):=by
  intro n ob hn
  match n with
  | 0|1|2|3|4=>simpa[eO,s0,aa] using hn
  | n+5=>simp[eO,s0,aa,bA] at hn
 have hsc:=(hsb.here (λ n=>decide (n<5)) (λ n hn=> ?_) (by simp[SV.au,SV.ok]) (by simp[eO,s0,Hp.ok,Ob.ok,SV.au,SV.ok,bF]) ?_).frame hsubF
 .refine hsc.mono ?_
  rintro r F' ⟨F1,⟨rfl,xs,s',hon,hin,oH,hall,⟨hn0,hn1⟩,rfl⟩,rfl⟩;have hl:=zW hon;have hperm:=wD hwf hin oH (hall rfl);obtain⟨l,rn,hr1,hr2⟩:=s';have hl:l=MM.keys xs:=by simpa[s0] using hl
  have hn0:rn≠0:=λ e=>by simp[eO,e,aa] at hn0
  have hn1:rn≠1:=λ e=>by simp[eO,e,aa] at hn1
  have hll:l.length=L.length:=by rw[hl,hperm.length_eq];simp[MM.keys]
  rw[<- hl] at hperm;have hlk:=iI (ro:=false) (h:=(4,.p0 13 [2] [.ptr 3 0] [7] ca cb .ready none)::[(3,.box 31 [.gs 2 0]),(2,.arr 37 2 0 []),(0,.box 107 [.mp 1]),(1,.map (aq Dt.cells ov L) c)]) (F:=(0,.box 107 [.mp 1])::(1,.map (aq Dt.cells ov L) c)::eO 4 3 13 [2] [7] ca cb s0) (F':=(0,.box 107 [.mp 1])::(1,.map (aq Dt.cells ov L) c)::eO 4 3 13 [2] [7] ca cb ⟨l,rn,hr1,hr2⟩) hsubF (λ h=>by cases h);generalize bU false _ _ _=G at hlk;have hG:∀ n ob,lk ((0,Ob.box 107 [.mp 1])::(1,.map (aq Dt.cells ov L) c)::eO 4 3 13 [2] [7] ca cb ⟨l,rn,hr1,hr2⟩) n=some ob->lk G n=some ob:=λ n ob h=>by
   rw[hlk,fm (.inr (by rw[h];simp)),h]
  refine⟨none,hG 4 _ (by simp[eO,aa,mN]),?_⟩;refine SW.weak (λ n=>if n=2 then rn else n) (st1:=⟨[(2,.ptr 3 0)],[(3,.box 31 [.gs 2 L.length]),(2,.arr 37 2 L.length ((l.flatMap Dt.ds).map .d)),(0,.box 107 [.mp 1]),(1,.map (aq Dt.cells ov L) c)],6⟩) ?_ ?_
  .have q3:=hG 3 (.box 31 [.gs rn l.length]) (by simp[eO,aa])
   have q2:=hG rn (.arr 37 2 l.length ((l.flatMap Dt.ds).map .d)) (by simp[eO,aa,hn0,hn1,hr1,hr2]);have q0:=hG 0 (.box 107 [.mp 1]) (by simp[aa]);have q1:=hG 1 (.map (aq Dt.cells ov L) c) (by simp[aa]);rw[hll] at q3 q2;refine⟨by show 2<=6;omega,λ n hn=>if_neg (by omega),?_,?_,?_⟩
   .simp[aL,List.lookup,SV.aC,SV.ok]
   .simp[tS,cZ,Ob.aC,SV.aU,SV.aC,SV.dN,SV.aZ,Ob.ok,SV.au,SV.ok,q3,q2,q0,q1,hr1,cQ,bF]
   .intro a ha b hb e
    simp only[List.map_cons,List.map_nil,List.mem_cons,List.not_mem_nil,or_false] at ha hb;rcases ha with rfl|rfl|rfl|rfl<;>rcases hb with rfl|rfl|rfl|rfl<;>simp at e<;>first|rfl|omega
  ·(repeat (first|refine SW.seq ?_|refine SW.block ?_|refine SW.g0 fX Zm af ?_|refine SW.skip ?_|refine SW.exit ?_|refine SW.ret ?_|refine SW.an rfl ?_|refine SW.ah rfl ?_))
   exact End.mk ((2,.arr 37 2 L.length ((l.flatMap Dt.ds).map .d))::fS 0 1 L c) (h4:=⟨rfl,l,hperm,rfl⟩) (h6:=by simp[fS,Hp.ok,Ob.ok,SV.au,SV.ok,SV.aZ,bF])
 .match n,hn with
  | 0,_|1,_|2,_|3,_|4,_=>simp[eO,s0,aa]
  | n +5,h=>
    have:n+5<5:=by simpa using h
    omega
 .rintro r F' _ h1 h2
  refine⟨SV.fG (λ n hn=> ?_) _ h1,Hp.eu (λ n hn=> ?_) h2⟩<;>(simp at hn ⊢;omega)
end
end Go.Proofs.YtaelhkkjgfobhaaGreat
namespace Go.Proofs.YtaelhkkjgfobhaaGreat
open Go.Sl Go.Proofs Go.Sort
attribute [local irreducible] SW RW aF SC ai ak
theorem sZ (L:(MM Dt ag))(c n:Nat)(h:decide (n<2)=true):lk (fS 0 1 L c) n≠none:=by
 match n,h with
 | 0,_|1,_=>simp[fS,aa]
 | n +2,h=>
   have:n+2<2:=by simpa using h
   omega
theorem o6 (q:Nat->Bool)(b m:Nat)(L:(MM Dt ag))(c:Nat)(hb:q b=true)(hm:q m=true):(fS b m L c).ok q=true:=by
 simp[fS,Hp.ok,Ob.ok,SV.au,SV.ok,bF,hb,hm]
theorem wF {L:(MM Dt ag)}{c:Nat}(hwf:MM.wf L c)(hL:L.length<1000000000):
  SC Tryz.prog slices_AppendSeq_Lapi_Dot_api_Dot.f [.d .aG,.fn (.func maps_Keys_map_api_Dot_api_Op_api_Dot_api_Op_1.f) [] [.ptr 0 0]] (fS 0 1 L c) 2 1
   λ r F=>r= .gs 2 L.length/\∃ l:List Dt,l.Perm (MM.keys L)/\F=(2,.arr 37 2 L.length ((l.flatMap Dt.ds).map .d))::fS 0 1 L c:=
 (wE hwf hL).here (λ n=>decide (n<2)) (sZ L c) (by simp[SV.au,SV.ok]) (o6 _ _ _ _ _ rfl rfl) λ r F' _ h1 h2=>⟨SV.fG (λ n hn=>by simp at hn ⊢;omega) _ h1,Hp.eu (λ n hn=>by simp at hn ⊢;omega) h2⟩
theorem Af {L:(MM Dt ag)}{c:Nat}(hwf:MM.wf L c)(hL:L.length<1000000000):
  SB Tryz.prog slices_Collect_api_Dot.f [.fn (.func maps_Keys_map_api_Dot_api_Op_api_Dot_api_Op_1.f) [] [.ptr 0 0]] (fS 0 1 L c) 2 1
   λ r F=>r= .gs 2 L.length/\∃ l:List Dt,l.Perm (MM.keys L)/\F=(2,.arr 37 2 L.length ((l.flatMap Dt.ds).map .d))::fS 0 1 L c:=by
 refine slices_Collect_api_Dot.enter (by simp[SV.ok,SV.au]) (o6 _ _ _ _ _ rfl rfl) (by simp) ?_;dsimp only[slices_Collect_api_Dot.s,Co.M,Co.J,Co.F,Co.C,Co.S];refine SW.seq (SW.g0 im Zm af ?_);refine SW.seq (SW.xd ?_);(repeat (first|refine bq.op af (h:=?_)|refine bq.di af (h:=?_)|refine bq.skip (h:=?_)));refine bq.aW (wF hwf hL) (λ _ _ h=>h) (h:=?_);rintro v F' ⟨rfl,l,hl,rfl⟩;simp only[bU,dx,dy,gA,gR,bY,lk,List.lookup,Nat.reduceBEq,BEq.rfl,beq_self_eq_true,if_true,if_false,reduceIte,Nat.reduceEqDiff,Bool.false_eq_true,Option.isSome_some,Option.isSome_none,Nat.reduceAdd,fS];(repeat (first|refine bq.op af (h:=?_)|refine bq.di af (h:=?_)|refine bq.skip (h:=?_)));refine bq.nil (SW.ret ?_);exact End.mk ((2,.arr 37 2 L.length ((l.flatMap Dt.ds).map .d))::fS 0 1 L c) (h4:=⟨rfl,l,hl,rfl⟩) (h6:=by simp[fS,Hp.ok,Ob.ok,SV.au,SV.ok,SV.aZ,bF])
theorem Ag {L:(MM Dt ag)}{c:Nat}(hwf:MM.wf L c)(hL:L.length<1000000000):
  SC Tryz.prog slices_Collect_api_Dot.f [.fn (.func maps_Keys_map_api_Dot_api_Op_api_Dot_api_Op_1.f) [] [.ptr 0 0]] (fS 0 1 L c) 2 1
   λ r F=>r= .gs 2 L.length/\∃ l:List Dt,l.Perm (MM.keys L)/\F=(2,.arr 37 2 L.length ((l.flatMap Dt.ds).map .d))::fS 0 1 L c:=
 (Af hwf hL).here (λ n=>decide (n<2)) (sZ L c) (by simp[SV.au,SV.ok]) (o6 _ _ _ _ _ rfl rfl) λ r F' _ h1 h2=>⟨SV.fG (λ n hn=>by simp at hn ⊢;omega) _ h1,Hp.eu (λ n hn=>by simp at hn ⊢;omega) h2⟩
theorem vw {L:(MM Dt ag)}{c:Nat}(hwf:MM.wf L c)(hL:L.length<1000000000):
  SB Tryz.prog slices_SortedFunc_api_Dot.f [.fn (.func maps_Keys_map_api_Dot_api_Op_api_Dot_api_Op_1.f) [] [.ptr 0 0],.fn (.func dot_Compare.f) [] []] (fS 0 1 L c) 2 0
   λ r F=>r=bg (Dt.sorted (MM.keys L))/\F=fS 0 1 L c:=by
 refine slices_SortedFunc_api_Dot.enter (by simp[SV.ok,SV.au]) (o6 _ _ _ _ _ rfl rfl) (by simp) ?_;dsimp only[slices_SortedFunc_api_Dot.s,Co.M,Co.J,Co.F,Co.P,Co.Q,Co.S];refine SW.seq (SW.g0 lj Zm af ?_);refine SW.seq (SW.xd ?_);(repeat (first|refine bq.op af (h:=?_)|refine bq.di af (h:=?_)|refine bq.skip (h:=?_)));refine bq.aW (Ag hwf hL) (λ _ _ h=>h) (h:=?_);rintro v F' ⟨rfl,l,hl,rfl⟩;simp only[bU,dx,dy,gA,gR,bY,lk,List.lookup,Nat.reduceBEq,BEq.rfl,beq_self_eq_true,if_true,if_false,reduceIte,Nat.reduceEqDiff,Bool.false_eq_true,Option.isSome_some,Option.isSome_none,Nat.reduceAdd,fS];(repeat (first|refine bq.op af (h:=?_)|refine bq.di af (h:=?_)|refine bq.skip (h:=?_)));refine bq.nil ?_;have hlen:l.length=L.length:=by rw[hl.length_eq];simp[MM.keys]
 refine SW.seq (SW.xd ?_);(repeat (first|refine bq.op af (h:=?_)|refine bq.di af (h:=?_)|refine bq.skip (h:=?_)));rw[<- hlen];refine bq.oL af (oU 2 l (by omega) 3) (h:=?_);refine bq.nil ?_;refine SW.seq (SW.g0 lj Zm af ?_);have fq:(Dt.sorted l).length=l.length:=(Dt.sorted_perm l).length_eq;have hse:Dt.sorted l=Dt.sorted (MM.keys L):=Dt.jR ((Dt.sorted_perm l).trans hl) (Dt.gp l);refine SW.weak id (st1:=⟨[(4,.gs 2 l.length)],[(2,.arr 37 2 l.length (((Dt.sorted l).flatMap Dt.ds).map .d)),(0,.box 107 [.mp 1]),(1,.map (aq Dt.cells ov L) c)],3⟩) (aH.same (by simp) (by simp[aL,List.lookup,SV.aC,SV.ok]) (by simp[Hp.ok,Ob.ok,SV.au,SV.ok,SV.aZ,bF]) (by simp[aa])) ?_;refine SW.freeze 2 ((Dt.sorted l).flatMap Dt.ds) rfl rfl ?_;have e1:iM 2 l.length ((Dt.sorted l).flatMap Dt.ds) [(4,.gs 2 l.length)]=[(4,bg (Dt.sorted (MM.keys L)))]:=by
  rw[<- hse];simp only[iM,List.map_cons,List.map_nil,SV.gz,if_true,bg,fq]
 show Go.Sl.SW _ _ _ _ ⟨iM 2 l.length ((Dt.sorted l).flatMap Dt.ds) [(4,.gs 2 l.length)],fS 0 1 L c,3⟩ _;rw[e1];refine SW.ret ?_;exact End.mk (fS 0 1 L c) (h3:=λ _ _ h=>h) (h4:=⟨rfl,rfl⟩) (h5:=rfl) (h6:=o6 _ _ _ _ _ rfl rfl)
theorem vz {L:(MM Dt ag)}{c:Nat}(hwf:MM.wf L c)(hL:L.length<1000000000)(k:Nat)(b m:Nat)(Ma:b≠m):
  aF Tryz.prog slices_SortedFunc_api_Dot.f [.fn (.func maps_Keys_map_api_Dot_api_Op_api_Dot_api_Op_1.f) [] [.ptr b 0],.fn (.func dot_Compare.f) [] []] (fS b m L c) k 0 (bg (Dt.sorted (MM.keys L))) (fS b m L c):=by
 have h:=SB.nB [b,m] (vw hwf hL) (by simp[Ma]) (λ i hi=>sZ L c i (by simpa using hi)) k
 simpa[SV.aU,SV.aC,fz,fS,Hp.aC,Ob.aC,cQ] using h
theorem Gz (L:(MM Dt ag))(c:Nat):SB Tryz.prog maps_Keys_map_api_Dot_api_Op_api_Dot_api_Op.f [.mp 0] [(0,.map (aq Dt.cells ov L) c)] 1 1 λ r F=>r= .fn (.func maps_Keys_map_api_Dot_api_Op_api_Dot_api_Op_1.f) [] [.ptr 1 0]/\F=[(1,.box 107 [.mp 0]),(0,.map (aq Dt.cells ov L) c)]:=by
 refine maps_Keys_map_api_Dot_api_Op_api_Dot_api_Op.enter rfl (by simp[Hp.ok,Ob.ok,bF]) (by simp) ?_;dsimp only[maps_Keys_map_api_Dot_api_Op_api_Dot_api_Op.s,Co.M,Co.J,Co.F,Co.x,Co.S];(repeat (first|refine SW.seq ?_|refine SW.block ?_|refine SW.g0 eJ Zm af ?_|refine SW.skip ?_|refine SW.exit ?_|refine SW.ret ?_|refine SW.an rfl ?_|refine SW.ah rfl ?_));exact End.mk [(1,.box 107 [.mp 0]),(0,.map (aq Dt.cells ov L) c)] (h4:=⟨rfl,rfl⟩) (h6:=by simp[Hp.ok,Ob.ok,SV.au,SV.ok,bF])
theorem GA (L:(MM Dt ag))(c:Nat)(n k:Nat):aF Tryz.prog maps_Keys_map_api_Dot_api_Op_api_Dot_api_Op.f [.mp n] [(n,.map (aq Dt.cells ov L) c)] k 1 (.fn (.func maps_Keys_map_api_Dot_api_Op_api_Dot_api_Op_1.f) [] [.ptr k 0]) [(k,.box 107 [.mp n]),(n,.map (aq Dt.cells ov L) c)]:=by
 have h:=SB.nB [n] (Gz L c) (by simp) (λ i hi=>by cases i with|zero=>simp[aa]|succ i=>simp at hi) k
 simpa[SV.aU,SV.aC,fz,Hp.aC,Ob.aC,cQ] using h
end Go.Proofs.YtaelhkkjgfobhaaGreat
namespace Go.Proofs.YtaelhkkjgfobhaaGreat
open Go.Sl Go.Proofs
section
theorem dG.Jz {l:List ag}{S:Sh}(h:dG l S):Dt.sorted (MM.keys S.ops)=Dt.set (l.map (·.dot)):=
 Dt.iy (Dt.rN h.base.ops.wf.keys) (Dt.iz _) λ v=>by
  rw[(Dt.sorted_perm _).mem_iff,Dt.mem_set,<- MM.ir,h.base.has,nY,List.mem_map]
theorem dG.jP {l:List ag}{S:Sh}(h:dG l S):S.ops.length<=l.length:=by
 have:=h.base.ops.wf.keys.length_le_of_subset (l₂:=l.map (·.dot)) λ d hd=>by
  rw[<- MM.ir,h.base.has,nY] at hd;obtain⟨o,ho,e⟩:=hd;exact List.mem_map.2 ⟨o,ho,e⟩
 simpa[MM.keys] using this
section
attribute [local irreducible] SW RW aF SC ai ak
set_option maxHeartbeats 4000000 in
theorem GB (S:Sh)(hwf:MM.wf S.ops S.co)(hL:S.ops.length<1000000000):SB Tryz.prog shape_Shape_Dots.f [.ptr 0 0] S.h0 7 0 λ r F=>r=bg (Dt.sorted (MM.keys S.ops))/\F=S.h0:=by
 refine shape_Shape_Dots.enter (by simp[SV.au,SV.ok]) (S.ok (Nat.le_refl 7)) (by simp) ?_;dsimp only[shape_Shape_Dots.s,Co.M,Co.J,Co.F,Co.C,Co.T,Co.P,Co.D,Co.A,Co.S];refine SW.seq (SW.g0 ip Zm af ?_);refine SW.seq (SW.seq (SW.g1 ip Zm af (uh S) ?_));refine SW.ah rfl (SW.skip (SW.seq ?_));have cS:∀ k,aF Tryz.prog slices_SortedFunc_api_Dot.f [.fn (.func maps_Keys_map_api_Dot_api_Op_api_Dot_api_Op_1.f) [] [.ptr 7 0],.fn (.func dot_Compare.f) [] []] [(7,.box 107 [.mp 1]),(1,.map (aq Dt.cells ov S.ops) S.co)] k 0 (bg (Dt.sorted (MM.keys S.ops))) [(7,.box 107 [.mp 1]),(1,.map (aq Dt.cells ov S.ops) S.co)]:=λ k=>vz hwf hL k 7 1 (by decide)
 have cK:=GA S.ops S.co 1;refine SW.g2 ip Zm af cK cS ?_;refine SW.ret ?_;exact End.mk S.h0 (h4:=⟨rfl,rfl⟩) (h6:=S.ok (Nat.le_refl 7))
theorem dG.GC {l:List ag}{S:Sh}(h:dG l S)(hl:l.length<=80)(k:Nat):aF Tryz.prog shape_Shape_Dots.f [.ptr 10 0] S.lU k 0 (bg (Dt.set (l.map (·.dot)))) S.lU:=by
 have:=S.at_ (args:=[]) (GB S h.base.ops.wf (by have:=h.jP;omega)) (λ _=>rfl) (λ _=>rfl) n10 yy k;rw[h.Jz] at this;exact this
end
end
section
theorem qi {l:List ag}(hl:l.length<=80)(hd:∀ o,o∈l->o.mZ/\o.cl.length<=140737488351232):∀ i,i<=l.length->0<=gf l i/\gf l i<=i*140737488351232/\∀ j,j<i->∀ o,l[j]? =some o->(o.cl.length:Int)<=gf l i
 | 0,_=>⟨Int.le_refl _,by simp[gf],λ j h=>by omega⟩
 | i +1,hi=>by
  obtain⟨h1,h2,h3⟩:=qi hl hd i (by omega);obtain⟨x,hx⟩:=aP (show i<l.length by omega);obtain⟨k1,k2⟩:=hd x (List.mem_of_getElem? hx);have hn:yj x=x.cl.length:=by unfold yj;rw[k1.eq]
  have e:gf l (i+1)=gf l i+(x.cl.length:Int):=by
   simp only[gf,hx,Option.map_some,Option.getD_some,hn];exact wrap_i64 _ (by omega)
  rw[e];refine⟨by omega,by omega,λ j hj o ho=> ?_⟩
  by_cases hji:j=i
  .subst hji;rw[hx] at ho;cases ho;omega
  .have:=h3 j (by omega) o ho;omega
theorem Ah {l:List ag}(h:jK l=false)(hd:∀ o,o∈l->o.mZ/\o.cl.length<=140737488351232):∀ o,o∈l->o.cl.length<=1048576:=λ o ho=>by
 have hl:=xq h;unfold jK at h;simp only[Bool.or_eq_false_iff,decide_eq_false_iff_not] at h;obtain⟨i,hi,rfl⟩:=List.getElem_of_mem ho;have:=(qi hl hd l.length (Nat.le_refl _)).2.2 i hi _ (List.getElem?_eq_getElem hi);rw[show min l.length 100=l.length by omega] at h;omega
end
end Go.Proofs.YtaelhkkjgfobhaaGreat
