/-
 Shapes: what a shape holds; which operation is before another one, carts, credentials.
-/
import Derived.Test.YtaelhkkjgfobhaaGreatTC
set_option linter.unusedSectionVars false
set_option linter.unusedVariables false
set_option linter.unusedSimpArgs false
namespace Go.Proofs.YtaelhkkjgfobhaaGreat
open Go.Sl Go.Proofs
section
def dv (d:Dt):SV:= .agg d.cells
theorem IY (L:MM Dt Dt)(a:Dt):fK (aq Dt.cells dv L) (.agg (⟨0,0⟩:Dt).cells) (MM.idx L a)= .agg ((MM.get L a).getD ⟨0,0⟩).cells:=jd (vs:=dv) ⟨0,0⟩ L a
theorem IZ (L:MM Dt Dt)(c:Nat)(a v:Dt):kf (aq Dt.cells dv L) c (.agg a.cells) (.agg v.cells) (MM.idx L a)= .map (aq Dt.cells dv (MM.put L c a v)) (MM.jA L c a):=jG (vs:=dv) L c a v
theorem B8 (L:MM Dt ag)(c:Nat)(a:Dt)(v:ag):kf (aq Dt.cells ov L) c (.agg a.cells) (.agg v.cells) (MM.idx L a)= .map (aq Dt.cells ov (MM.put L c a v)) (MM.jA L c a):=jG (vs:=ov) L c a v
theorem sQ (ρ:Nat->Nat)(L:MM Dt Dt):(aq Dt.cells dv L).map (λ e=>(e.1,e.2.1.aC ρ,e.2.2.aC ρ))=aq Dt.cells dv L:=lz ρ L (λ a=>Dt.aA a ρ) (λ v=>by simp[dv,SV.aC,Dt.aA])
theorem oP (q:Nat->Bool)(L:MM Dt Dt):((aq Dt.cells dv L).all λ e=>e.2.1.ok q && e.2.2.ok q)=true:=nG q L (λ a=>Dt.aj a q) (λ v=>by simp[dv,SV.ok,Dt.aj])
structure Sh where
 ops:MM Dt ag
 co:Nat
 iH:MM Dt Int
 ca:Nat
 oC:MM Dt Dt
 cl:Nat
 tr:MM Dt Cr
 ct:Nat
 md:MM Dt ag
 cm:Nat
abbrev Sh.h0 (S:Sh):Hp:=[(0,.box 117 [.ptr 4 0,.mp 1,.mp 2,.mp 3]),(1,.map (aq Dt.cells ov S.ops) S.co),(2,.map (aq Dt.cells iv S.iH) S.ca),(3,.map (aq Dt.cells dv S.oC) S.cl),
 (4,.box 166 [.mp 5,.mp 6]),(5,.map (aq Dt.cells cv S.tr) S.ct),(6,.map (aq Dt.cells ov S.md) S.cm)]
abbrev Sh.T (S:Sh):Tr:=⟨4,5,6,S.tr,S.ct,S.md,S.cm⟩
theorem Sh.LW (S:Sh):S.T.sep:=⟨by show(5:Nat)≠4;decide,by show(6:Nat)≠4;decide,by show(5:Nat)≠6;decide⟩
theorem Sh.ok (S:Sh){k:Nat}(h:7<=k):S.h0.ok (λ n=>decide (n<k))=true:=by
 have a:=bF (λ n=>decide (n<k)) S.ops;have b:=bP (λ n=>decide (n<k)) S.iH;have c:=oP (λ n=>decide (n<k)) S.oC;have d:=kB (λ n=>decide (n<k)) S.tr;have e:=bF (λ n=>decide (n<k)) S.md;simp only[Hp.ok,List.all_cons,List.all_nil,Ob.ok,SV.au,SV.ok,a,b,c,d,e,Bool.and_true,Bool.true_and,Bool.and_eq_true,decide_eq_true_eq];omega
def Sh.op (S:Sh)(d:Dt):ag:=(MM.get S.ops d).getD ag.zero
def Sh.cr (S:Sh)(d:Dt):Cr:=(MM.get S.tr d).getD Cr.zero
def Sh.xy (S:Sh)(d:Dt)(o:ag):Bool:=MM.has S.ops d && (S.op d).before o
def Sh.aI (S:Sh)(o:ag):Bool:=if o.kind=0 then decide (o.aI=o.dot) else MM.has S.ops o.aI && (decide ((S.op o.aI).kind=0) && (decide ((S.op o.aI).aI=(S.op o.aI).dot) && (S.op o.aI).before o))
def Sh.yt (S:Sh)(d:Dt)(o:ag):Bool:=MM.has S.tr d && (decide ((S.cr d).aI=o.aI) && S.xy d o)
def Sh.line (S:Sh)(d:Dt)(o:ag):Bool:=decide (0<(MM.get S.iH d).getD 0) && (decide ((S.op d).aI=o.aI) && S.xy d o)
def Sh.sR (S:Sh)(c:Cm)(o:ag):Bool:=S.line c.line o && (decide (c.j5=c.line) || (MM.has S.oC c.j5 && (decide ((MM.get S.oC c.j5).getD ⟨0,0⟩=c.line) && S.xy c.j5 o)))
section
attribute [local irreducible] SW RW aF SC ai ak
set_option maxHeartbeats 4000000 in
theorem I1 (S:Sh)(d:Dt)(o:ag):SB Tryz.prog shape_Shape_before.f [.ptr 0 0,.agg d.cells,.agg o.cells] S.h0 7 0 λ r F=>r=bl (S.xy d o)/\F=S.h0:=by
 refine shape_Shape_before.enter (by simp[SV.au,SV.ok]) (S.ok (Nat.le_refl 7)) (by simp) ?_;dsimp only[shape_Shape_before.s,Co.M,Co.J,Co.H,Co.F,Co.C,Co.B,Co.bC,Co.T,Co.K,Co.E,Co.x,Co.W,Co.U,Co.D,Co.A,Co.S];obtain⟨a,ha⟩:∃ a,(MM.get S.ops d).getD ag.zero=a:=⟨_,rfl⟩;have hb:=kI a o;refine SW.seq (SW.g0 dp Zm af ?_);refine SW.seq ?_;rcases h:MM.has S.ops d with _|_
 .refine SW.g0 dp Zm (Zq h ha) ?_
  refine SW.seq (SW.g0 dp Zm af ?_);refine SW.ret ?_;exact End.mk S.h0 (h4:=⟨by simp[ez,Sh.xy,h],rfl⟩) (h6:=S.ok (Nat.le_refl 7))
 .refine SW.g0 dp Zm (Zq h ha) ?_
  refine SW.seq (SW.g1 dp Zm af hb ?_);refine SW.ret ?_;exact End.mk S.h0 (h4:=⟨by simp[ez,Sh.xy,h,Sh.op,ha],rfl⟩) (h6:=S.ok (Nat.le_refl 7))
end
end
section
structure Sn where
 b:Nat
 o:Nat
 a:Nat
 l:Nat
 t:Nat
 x:Nat
 y:Nat
abbrev Sn.nl (n:Sn):List Nat:=[n.b,n.o,n.a,n.l,n.t,n.x,n.y]
abbrev Sn.ok (n:Sn):Prop:=n.nl.Nodup
def Sh.hp (S:Sh)(n:Sn):Hp:=[(n.b,.box 117 [.ptr n.t 0,.mp n.o,.mp n.a,.mp n.l]),(n.o,.map (aq Dt.cells ov S.ops) S.co),(n.a,.map (aq Dt.cells iv S.iH) S.ca),(n.l,.map (aq Dt.cells dv S.oC) S.cl),
 (n.t,.box 166 [.mp n.x,.mp n.y]),(n.x,.map (aq Dt.cells cv S.tr) S.ct),(n.y,.map (aq Dt.cells ov S.md) S.cm)]
theorem Sh.FC (S:Sh)(n:Sn)(k:Nat):Hp.aC (fz n.nl k) S.h0=S.hp n:=by
 simp only[Hp.aC,List.map_cons,List.map_nil,Ob.aC,SV.aU,SV.aC,jY,cQ,sQ,ff,Sh.hp];rfl
theorem Sh.KI (S:Sh):∀ i,i<7->lk S.h0 i≠none:=λ i hi=>by
 rcases(show i=0\/i=1\/i=2\/i=3\/i=4\/i=5\/i=6 by omega) with rfl|rfl|rfl|rfl|rfl|rfl|rfl<;>simp[aa]
theorem Sh.at_ (S:Sh){f:FuncId}{args:List SV}{r:SV}(h:SB Tryz.prog f (.ptr 0 0::args) S.h0 7 0 λ x F=>x=r/\F=S.h0)(ha:∀ ρ,SV.aU ρ args=args)(hr:∀ ρ,r.aC ρ=r)(n:Sn)(hn:n.ok)(k:Nat):
  aF Tryz.prog f (.ptr n.b 0::args) (S.hp n) k 0 r (S.hp n):=by
 have:=SB.nB n.nl h hn S.KI k;rw[S.FC,hr] at this;simp only[SV.aU,SV.aC,ha] at this;exact this
abbrev n0:Sn:=⟨0,1,2,3,4,5,6⟩
theorem rG:n0.ok:=by decide
theorem I2 (S:Sh)(d:Dt)(o:ag)(n:Sn)(hn:n.ok)(k:Nat):aF Tryz.prog shape_Shape_before.f [.ptr n.b 0,.agg d.cells,.agg o.cells] (S.hp n) k 0 (bl (S.xy d o)) (S.hp n):=S.at_ (I1 S d o) (λ ρ=>by simp[SV.aU,SV.aC,Dt.aA,ag.aA]) (λ _=>rfl) n hn k
theorem Bd (S:Sh)(d:Dt)(o:ag)(k:Nat):aF Tryz.prog shape_Shape_before.f [.ptr 0 0,.agg d.cells,.agg o.cells] S.h0 k 0 (bl (S.xy d o)) S.h0:=I2 S d o n0 rG k
abbrev Sh.h4 (S:Sh):Hp:=[(4,.box 166 [.mp 5,.mp 6]),(5,.map (aq Dt.cells cv S.tr) S.ct),(6,.map (aq Dt.cells ov S.md) S.cm)]
theorem LX (S:Sh)(d:Dt)(k:Nat):aF Tryz.prog tree_Tree_Get.f [.ptr 4 0,.agg d.cells] S.h4 k 3 (.de [.agg (S.cr d).cells,i64 (if MM.has S.tr d then 0 else 7)]) S.h4:=get_at S.LW d k
section
attribute [local irreducible] SW RW aF SC ai ak
set_option maxHeartbeats 4000000 in
theorem FD (S:Sh)(o:ag):SB Tryz.prog shape_Shape_cart.f [.ptr 0 0,.agg o.cells] S.h0 7 0 λ r F=>r=bl (S.aI o)/\F=S.h0:=by
 refine shape_Shape_cart.enter (by simp[SV.au,SV.ok]) (S.ok (Nat.le_refl 7)) (by simp) ?_;dsimp only[shape_Shape_cart.s,Co.M,Co.J,Co.H,Co.F,Co.C,Co.B,Co.b8,Co.bC,Co.T,Co.K,Co.E,Co.x,Co.W,Co.U,Co.D,Co.A,Co.S];obtain⟨g,hg⟩:∃ g,(MM.get S.ops o.aI).getD ag.zero=g:=⟨_,rfl⟩;have hS:S.aI o=if o.kind=0 then decide (o.aI=o.dot) else MM.has S.ops o.aI && (decide (g.kind=0) && (decide (g.aI=g.dot) && g.before o)):=by unfold Sh.aI Sh.op;rw[hg]
 have hb:=kI g o;refine SW.seq (SW.g0 fb Zm af ?_);refine SW.seq (SW.g0 fb Zm hg ?_);refine SW.seq (SW.seq ?_)
 by_cases hk:o.kind=0
 .have k1:(((o.kind:Nat):Int) == 0)=true:=by rw[hk];rfl
  refine SW.g0 fb Zm k1 ?_;refine SW.an rfl (SW.seq ?_);rw[if_pos hk] at hS;rcases h:decide (o.aI=o.dot) with _|_
  .refine SW.g0 fb Zm h ?_
   refine SW.ret ?_;exact End.mk S.h0 (h4:=⟨by rw[hS,h];rfl,rfl⟩) (h6:=S.ok (Nat.le_refl 7))
  .refine SW.g0 fb Zm h ?_
   refine SW.ret ?_;exact End.mk S.h0 (h4:=⟨by rw[hS,h];rfl,rfl⟩) (h6:=S.ok (Nat.le_refl 7))
 have k1:(((o.kind:Nat):Int) == 0)=false:=by simp;omega
 rw[if_neg hk] at hS;refine SW.g0 fb Zm k1 ?_;refine SW.ah rfl (SW.skip (SW.seq ?_));rcases h1:MM.has S.ops o.aI with _|_
 .refine SW.g0 fb Zm h1 ?_
  refine SW.ret ?_;exact End.mk S.h0 (h4:=⟨by rw[hS,h1];rfl,rfl⟩) (h6:=S.ok (Nat.le_refl 7))
 rcases h2:(((g.kind:Nat):Int) == 0) with _|_
 .have e2:decide (g.kind=0)=false:=by simp at h2 ⊢;omega
  refine SW.g0 fb Zm (Zq h1 h2) ?_;refine SW.ret ?_;exact End.mk S.h0 (h4:=⟨by rw[hS,h1,e2];rfl,rfl⟩) (h6:=S.ok (Nat.le_refl 7))
 have e2:decide (g.kind=0)=true:=by simp at h2 ⊢;omega
 rcases h3:decide (g.aI=g.dot) with _|_
 .refine SW.g0 fb Zm (Zq h1 (Zq h2 h3)) ?_
  refine SW.ret ?_;exact End.mk S.h0 (h4:=⟨by rw[hS,h1,e2,h3];rfl,rfl⟩) (h6:=S.ok (Nat.le_refl 7))
 .refine SW.g1 fb Zm (Zq h1 (Zq h2 h3)) hb ?_
  refine SW.ret ?_;exact End.mk S.h0 (h4:=⟨by rw[hS,h1,e2,h3];simp[ez],rfl⟩) (h6:=S.ok (Nat.le_refl 7))
set_option maxHeartbeats 4000000 in
theorem FE (S:Sh)(d:Dt)(o:ag):SB Tryz.prog shape_Shape_cred.f [.ptr 0 0,.agg d.cells,.agg o.cells] S.h0 7 0 λ r F=>r= .de [.agg (S.cr d).cells,bl (S.yt d o)]/\F=S.h0:=by
 refine shape_Shape_cred.enter (by simp[SV.au,SV.ok]) (S.ok (Nat.le_refl 7)) (by simp) ?_;dsimp only[shape_Shape_cred.s,Co.M,Co.G,Co.J,Co.H,Co.F,Co.C,Co.B,Co.b8,Co.ay,Co.bu,Co.i6,Co.T,Co.K,Co.E,Co.Q,Co.x,Co.W,Co.Y,Co.U,Co.D,Co.A,Co.S];have hc:=LX S d;have hb:=Bd S d o;obtain⟨c,hcc⟩:∃ c,S.cr d=c:=⟨_,rfl⟩;have hS:S.yt d o=(MM.has S.tr d && (decide (c.aI=o.aI) && S.xy d o)):=by unfold Sh.yt;rw[hcc]
 rw[hcc] at hc ⊢;refine SW.seq (SW.g0 dT Zm af ?_);refine SW.seq ?_;rcases h1:MM.has S.tr d with _|_
 .simp only[h1,Bool.false_eq_true,if_false] at hc
  refine SW.g1 dT Zm af hc ?_;refine SW.seq (SW.g0 dT Zm af ?_);refine SW.ret ?_;exact End.mk S.h0 (h4:=⟨by rw[hS,h1];rfl,rfl⟩) (h6:=S.ok (Nat.le_refl 7))
 simp only[h1,if_true] at hc;refine SW.g1 dT Zm af hc ?_;refine SW.seq ?_;rcases h2:decide (c.aI=o.aI) with _|_
 .refine SW.g0 dT Zm h2 ?_
  refine SW.ret ?_;exact End.mk S.h0 (h4:=⟨by rw[hS,h1,h2];rfl,rfl⟩) (h6:=S.ok (Nat.le_refl 7))
 .refine SW.g1 dT Zm h2 hb ?_
  refine SW.ret ?_;exact End.mk S.h0 (h4:=⟨by rw[hS,h1,h2];simp[ez],rfl⟩) (h6:=S.ok (Nat.le_refl 7))
end
end
section
def _root_.Go.Sl.Cm.sv (c:Cm):List SV:=c.line.cells++c.j5.cells
section
variable (c:Cm)
theorem _root_.Go.Sl.Cm.s0:List.take 2 c.sv=c.line.cells:=rfl
theorem _root_.Go.Sl.Cm.s2:List.take 2 (List.drop 2 c.sv)=c.j5.cells:=rfl
theorem _root_.Go.Sl.Cm.BI:c.sv.length=4:=rfl
theorem _root_.Go.Sl.Cm.KJ:c.sv.all SV.dR=true:=rfl
@[simp] theorem _root_.Go.Sl.Cm.P_ (q:Nat->Bool):SV.au q c.sv=true:=rfl
@[simp] theorem _root_.Go.Sl.Cm.NT (ρ:Nat->Nat):SV.aU ρ c.sv=c.sv:=rfl
theorem _root_.Go.Sl.Cm.Ex (a b:Dt):a.cells++b.cells=(⟨a,b⟩:Cm).sv:=rfl
end
def fO (k:Nat):Nat:=([0,1,1,2,2,2,4,4,2]:List Nat).getD k 0
section
attribute [local irreducible] SW RW aF SC ai ak Cm.sv
set_option maxHeartbeats 4000000 in
theorem FF (S:Sh)(d:Dt)(o:ag):SB Tryz.prog shape_Shape_line.f [.ptr 0 0,.agg d.cells,.agg o.cells] S.h0 7 0 λ r F=>r=bl (S.line d o)/\F=S.h0:=by
 refine shape_Shape_line.enter (by simp[SV.au,SV.ok]) (S.ok (Nat.le_refl 7)) (by simp) ?_;dsimp only[shape_Shape_line.s,Co.M,Co.G,Co.J,Co.H,Co.F,Co.C,Co.B,Co.i6,Co.bC,Co.T,Co.K,Co.x,Co.Y,Co.U,Co.D,Co.A,Co.S];obtain⟨g,hg⟩:∃ g,(MM.get S.ops d).getD ag.zero=g:=⟨_,rfl⟩;have hS:S.line d o=(decide (0<(MM.get S.iH d).getD 0) && (decide (g.aI=o.aI) && S.xy d o)):=by unfold Sh.line Sh.op;rw[hg]
 have hb:=Bd S d o;refine SW.seq (SW.g0 gS Zm af ?_);refine SW.seq ?_;rcases h1:decide (0<(MM.get S.iH d).getD 0) with _|_
 .have g1:decide ((MM.get S.iH d).getD 0>0)=false:=h1
  refine SW.g0 gS Zm g1 ?_;refine SW.ret ?_;exact End.mk S.h0 (h4:=⟨by rw[hS,h1];rfl,rfl⟩) (h6:=S.ok (Nat.le_refl 7))
 have g1:decide ((MM.get S.iH d).getD 0>0)=true:=h1;rcases h2:decide (g.aI=o.aI) with _|_
 .refine SW.g0 gS Zm (Zq g1 (Zq hg h2)) ?_
  refine SW.ret ?_;exact End.mk S.h0 (h4:=⟨by rw[hS,h1,h2];rfl,rfl⟩) (h6:=S.ok (Nat.le_refl 7))
 .refine SW.g1 gS Zm (Zq g1 (Zq hg h2)) hb ?_
  refine SW.ret ?_;exact End.mk S.h0 (h4:=⟨by rw[hS,h1,h2];simp[ez],rfl⟩) (h6:=S.ok (Nat.le_refl 7))
theorem B9 (S:Sh)(d:Dt)(o:ag)(k:Nat):aF Tryz.prog shape_Shape_line.f [.ptr 0 0,.agg d.cells,.agg o.cells] S.h0 k 0 (bl (S.line d o)) S.h0:=
 S.at_ (FF S d o) (λ ρ=>by simp[SV.aU,SV.aC,Dt.aA,ag.aA]) (λ _=>rfl) n0 rG k
set_option maxHeartbeats 4000000 in
theorem I3 (S:Sh)(c:Cm)(o:ag):SB Tryz.prog shape_Shape_claim.f [.ptr 0 0,.agg c.sv,.agg o.cells] S.h0 7 0 λ r F=>r=bl (S.sR c o)/\F=S.h0:=by
 refine shape_Shape_claim.enter (by simp[SV.au,SV.ok]) (S.ok (Nat.le_refl 7)) (by simp) ?_;dsimp only[shape_Shape_claim.s,Co.M,Co.G,Co.J,Co.H,Co.F,Co.C,Co.B,Co.b8,Co.ay,Co.T,Co.K,Co.E,Co.R,Co.x,Co.W,Co.U,Co.D,Co.A,Co.S];have c0:=c.s0;have c2:=c.s2;have cl:=c.BI;have c1:=c.KJ;obtain⟨v,hv⟩:∃ v,(MM.get S.oC c.j5).getD ⟨0,0⟩=v:=⟨_,rfl⟩;have hS:S.sR c o=(S.line c.line o && (decide (c.j5=c.line) || (MM.has S.oC c.j5 && (decide (v=c.line) && S.xy c.j5 o)))):=by unfold Sh.sR;rw[hv]
 have hl:=B9 S c.line o;have hb:=Bd S c.j5 o;have lkd:=IY S.oC c.j5;refine SW.seq (SW.g0 dp Zm c1 ?_);refine SW.seq (SW.g0 dp Zm (Zq c0 (Zq c2 (Zq cl (Zq lkd hv)))) ?_);refine SW.seq ?_;rcases h1:S.line c.line o with _|_
 .rw[h1] at hl
  refine SW.g2 dp Zm (Zq c0 (Zq c2 cl)) hl hb ?_;refine SW.ret ?_;exact End.mk S.h0 (h4:=⟨by rw[hS,h1];rfl,rfl⟩) (h6:=S.ok (Nat.le_refl 7))
 rw[h1] at hl;rcases h2:decide (c.j5=c.line) with _|_
 rotate_left
 .refine SW.g2 dp Zm (Zq c0 (Zq c2 (Zq cl h2))) hl hb ?_
  refine SW.ret ?_;exact End.mk S.h0 (h4:=⟨by rw[hS,h1,h2];rfl,rfl⟩) (h6:=S.ok (Nat.le_refl 7))
 rcases h3:MM.has S.oC c.j5 with _|_
 .refine SW.g2 dp Zm (Zq c0 (Zq c2 (Zq cl (Zq h2 h3)))) hl hb ?_
  refine SW.ret ?_;exact End.mk S.h0 (h4:=⟨by rw[hS,h1,h2,h3];rfl,rfl⟩) (h6:=S.ok (Nat.le_refl 7))
 rcases h4:decide (v=c.line) with _|_
 .refine SW.g2 dp Zm (Zq c0 (Zq c2 (Zq cl (Zq h2 (Zq h3 h4))))) hl hb ?_
  refine SW.ret ?_;exact End.mk S.h0 (h4:=⟨by rw[hS,h1,h2,h3,h4];rfl,rfl⟩) (h6:=S.ok (Nat.le_refl 7))
 .refine SW.g2 dp Zm (Zq c0 (Zq c2 (Zq cl (Zq h2 (Zq h3 h4))))) hl hb ?_
  refine SW.ret ?_;exact End.mk S.h0 (h4:=⟨by rw[hS,h1,h2,h3,h4];simp[ez],rfl⟩) (h6:=S.ok (Nat.le_refl 7))
theorem FG (S:Sh)(c:Cm)(o:ag)(k:Nat):aF Tryz.prog shape_Shape_claim.f [.ptr 0 0,.agg c.sv,.agg o.cells] S.h0 k 0 (bl (S.sR c o)) S.h0:=
 S.at_ (I3 S c o) (λ ρ=>by simp[SV.aU,SV.aC,ag.aA]) (λ _=>rfl) n0 rG k
theorem FH (k:Nat)(hk:k<256):Go.Sl.Pure Tryz.prog shape_Needs.f [u8 k] (.d (.int .u8 (fO k))):=by
 refine shape_Needs.enter (by first|rfl|simp[SV.ok,SV.au]) (by first|rfl|simp[Hp.ok,Ob.ok,SV.ok,SV.au,aB.aj]) (by simp) ?_;dsimp only[shape_Needs.s,Co.M,Co.J,Co.F,Co.b8,Co.T,Co.W,Co.Y,Co.S];refine SW.seq (SW.g0 lh Zm af ?_);refine SW.seq ?_;have hb:cq (cq (cq (cq (cq (cq (cq (cq [SV.d (.int .u8 0),.d (.int .u8 0),.d (.int .u8 0),.d (.int .u8 0),.d (.int .u8 0),.d (.int .u8 0),.d (.int .u8 0),.d (.int .u8 0),.d (.int .u8 0)] 1 [.d (.int .u8 1)]) 2 [.d (.int .u8 1)]) 3 [.d (.int .u8 2)]) 4 [.d (.int .u8 2)]) 5 [.d (.int .u8 2)]) 6 [.d (.int .u8 4)]) 7 [.d (.int .u8 4)]) 8 [.d (.int .u8 2)]=[.d (.int .u8 0),.d (.int .u8 1),.d (.int .u8 1),.d (.int .u8 2),.d (.int .u8 2),.d (.int .u8 2),.d (.int .u8 4),.d (.int .u8 4),.d (.int .u8 2)]:=rfl;have HQ:∀ z:List SV,z.length=9->cq z 0 [SV.d (.int .u8 0),.d (.int .u8 1),.d (.int .u8 1),.d (.int .u8 2),.d (.int .u8 2),.d (.int .u8 2),.d (.int .u8 4),.d (.int .u8 4),.d (.int .u8 2)]=[.d (.int .u8 0),.d (.int .u8 1),.d (.int .u8 1),.d (.int .u8 2),.d (.int .u8 2),.d (.int .u8 2),.d (.int .u8 4),.d (.int .u8 4),.d (.int .u8 2)]:=λ z hz=>by
  match z,hz with
  | [_,_,_,_,_,_,_,_,_],_=>rfl
 have hb3:=HQ [SV.d (.int .u8 0),.d (.int .u8 0),.d (.int .u8 0),.d (.int .u8 0),.d (.int .u8 0),.d (.int .u8 0),.d (.int .u8 0),.d (.int .u8 0),.d (.int .u8 0)] rfl;refine SW.g0 lh Zm (Zq hb hb3) ?_;have e8:IntKind.i64.wrap (k:Int)=(k:Int):=wrap_i64 _ (by omega);refine SW.seq (SW.seq ?_)
 by_cases h:k<9
 .have h1:decide ((k:Int)>=9)=false:=by simp only[decide_eq_false_iff_not];omega
  refine SW.g0 lh Zm (Zq e8 h1) ?_;refine SW.ah rfl (SW.skip (SW.seq ?_));have hg:([SV.d (.int .u8 0),.d (.int .u8 1),.d (.int .u8 1),.d (.int .u8 2),.d (.int .u8 2),.d (.int .u8 2),.d (.int .u8 4),.d (.int .u8 4),.d (.int .u8 2)]:List SV)[k]? =some (.d (.int .u8 (fO k))):=by
   match k,h with
   | 0,_|1,_|2,_|3,_|4,_|5,_|6,_|7,_|8,_=>rfl
  refine SW.g0 lh Zm hg ?_;refine SW.ret ?_;exact End.mk [] (h4:=⟨rfl,rfl⟩)
 .have h1:decide ((k:Int)>=9)=true:=by simp only[decide_eq_true_eq];omega
  have e:fO k=0:=by unfold fO;simp[List.getD];rw[List.getElem?_eq_none (by simp;omega)];rfl
  rw[e];refine SW.g0 lh Zm (Zq e8 h1) ?_;refine SW.an rfl (SW.seq (SW.g0 lh Zm af ?_));refine SW.ret ?_;exact End.mk [] (h4:=⟨rfl,rfl⟩)
theorem FI (k:Nat)(hk:k<256)(j:Nat):aF Tryz.prog shape_Needs.f [u8 k] [] j 0 (.d (.int .u8 (fO k))) []:=(FH k hk).sc rfl j
end
end
section
theorem ug {l:List Cm}{i:Nat}{x:Cm}(h:l[i]? =some x):List.take 4 (List.drop (i*4) (List.map SV.d (l.flatMap Cm.ds)))=x.sv:=by
 rw[<- List.map_drop,<- List.map_take,gw Cm.ds 4 (λ _=>rfl) l i x h];rfl
theorem pR {l:List Cm}{i:Nat}{x:Cm}(h:l[i]? =some x):(i*4+4<=(List.map SV.d (l.flatMap Cm.ds)).length)=True:=eq_true (by
 rw[List.length_map,IB];have:=(List.getElem?_eq_some_iff.1 h).1;omega)
def yu (p:Cm->Bool)(l:List Cm):Int:=match l.findIdx? p with
 | some i=>i
 | none=> -1
theorem FJ {p:Cm->Bool}:∀ {l:List Cm} {i:Nat} {x:Cm},(∀ y,y∈l.take i->p y=false)->l[i]? =some x->p x=true->yu p l=i:=by
 intro l i x h1 h2 h3;have:l.findIdx? p=some i:=by
  rw[List.findIdx?_eq_some_iff_getElem];obtain⟨hi,e⟩:=List.getElem?_eq_some_iff.1 h2;refine⟨hi,by rw[e];exact h3,λ j hj=> ?_⟩;have:=h1 l[j] (List.mem_take_iff_getElem.2 ⟨j,by omega,rfl⟩);simp[this]
 unfold yu;rw[this]
theorem C6 {p:Cm->Bool}{l:List Cm}(h:∀ y,y∈l->p y=false):yu p l= -1:=by
 have:l.findIdx? p=none:=by rw[List.findIdx?_eq_none_iff];exact h
 unfold yu;rw[this]
theorem FK (p:Cm->Bool)(l:List Cm):decide (yu p l>=0)=l.any p:=by
 unfold yu;cases h:l.findIdx? p with
 | none=>
  have h1:=List.findIdx?_eq_none_iff.1 h;have:l.any p=false:=by rw[List.any_eq_false];intro x hx;rw[h1 x hx];simp
  rw[this];rfl
 | some i=>
  obtain⟨hi,h2,_⟩:=List.findIdx?_eq_some_iff_getElem.1 h;have:l.any p=true:=by rw[List.any_eq_true];exact⟨_,List.getElem_mem hi,h2⟩
  rw[this];simp
abbrev Sh.ht (S:Sh)(o:ag):Hp:=(8,.box 43 o.cells)::(7,.box 29 [.ptr 0 0])::S.h0
theorem Sh.jC (S:Sh)(o:ag){k:Nat}(h:9<=k):(S.ht o).ok (λ n=>decide (n<k))=true:=by
 have:=S.ok (k:=k) (by omega);simp only[Sh.ht,Hp.ok,List.all_cons,Ob.ok,ag.aj,SV.au,SV.ok,Bool.and_true,Bool.and_eq_true,decide_eq_true_eq] at this ⊢;exact⟨by omega,⟨by omega,by omega⟩,this⟩
theorem Sh.LY (S:Sh)(o:ag)(k:Nat):Hp.aC (fz [0,1,2,3,4,5,6,7,8] k) (S.ht o)=S.ht o:=by
 simp only[Hp.aC,List.map_cons,List.map_nil,Ob.aC,SV.aU,SV.aC,jY,cQ,sQ,ff,ag.aA];rfl
theorem Sh.NU (S:Sh)(o:ag):∀ i,i<9->lk (S.ht o) i≠none:=λ i hi=>by
 rcases(show i=0\/i=1\/i=2\/i=3\/i=4\/i=5\/i=6\/i=7\/i=8 by omega) with rfl|rfl|rfl|rfl|rfl|rfl|rfl|rfl|rfl<;>simp[aa]
theorem Sh.M6 (S:Sh)(o:ag){f:FuncId}{args:List SV}{r:SV}(h:SB Tryz.prog f args (S.ht o) 9 0 λ x F=>x=r/\F=S.ht o)(k:Nat)(ha:SV.aU (fz [0,1,2,3,4,5,6,7,8] k) args=args)(hr:∀ ρ,r.aC ρ=r):
  aF Tryz.prog f args (S.ht o) k 0 r (S.ht o):=by
 have:=SB.nB [0,1,2,3,4,5,6,7,8] h (by decide) (S.NU o) k;rw[S.LY,ha,hr] at this;exact this
def Sh.tgt (S:Sh)(o:ag)(ab:Bool):Bool:=
 if o.kind=2 then S.yt o.at_ o && ab else if o.kind=4\/o.kind=5 then S.line o.at_ o else if o.kind=6\/o.kind=7 then S.sR ⟨o.at_,o.j5⟩ o else if o.kind=8 then !(o.cl.any λ c=> !S.sR c o) else true
section
attribute [local irreducible] SW RW aF SC ai ak Cm.sv
set_option maxHeartbeats 4000000 in
theorem I4 (S:Sh)(o:ag)(c:Cm):SB Tryz.prog shape_Shape_target_1.f [.agg c.sv,.ptr 7 0,.ptr 8 0] (S.ht o) 9 0 λ r F=>r=bl (!S.sR c o)/\F=S.ht o:=by
 refine shape_Shape_target_1.enter (by simp[SV.au,SV.ok]) (S.jC o (Nat.le_refl 9)) (by simp) ?_;dsimp only[shape_Shape_target_1.s,Co.M,Co.J,Co.F,Co.B,Co.T,Co.K,Co.R,Co.x,Co.O,Co.S];have c1:=c.KJ;have cl:=c.BI;have c4:List.take 4 c.sv=c.sv:=by rw[<- cl];exact List.take_length
 have hc:=FG S c o;refine SW.seq (SW.g0 eg Zm c1 ?_);refine SW.seq ?_;rcases h:S.sR c o with _|_<;>rw[h] at hc
 .refine SW.g1 eg Zm (Zq cl c4) hc ?_
  refine SW.ret ?_;exact End.mk (S.ht o) (h4:=⟨rfl,rfl⟩) (h6:=S.jC o (Nat.le_refl 9))
 .refine SW.g1 eg Zm (Zq cl c4) hc ?_
  refine SW.ret ?_;exact End.mk (S.ht o) (h4:=⟨rfl,rfl⟩) (h6:=S.jC o (Nat.le_refl 9))
theorem I5 (S:Sh)(o:ag)(c:Cm)(k:Nat):aF Tryz.prog shape_Shape_target_1.f [.agg c.sv,.ptr 7 0,.ptr 8 0] (S.ht o) k 0 (bl (!S.sR c o)) (S.ht o):=
 S.M6 o (I4 S o c) k (by simp only[SV.aU,SV.aC,Cm.NT];rfl) (λ _=>rfl)
set_option maxHeartbeats 4000000 in
theorem I6 (S:Sh)(o:ag)(l:List Cm)(hl:l.length<=9223372036854775807):SB Tryz.prog slices_IndexFunc_Lapi_Claim_api_Claim.f [.d (.sl l.length (l.flatMap Cm.ds)),.fn (.func shape_Shape_target_1.f) [] [.ptr 7 0,.ptr 8 0]] (S.ht o) 9 0 λ r F=>r= .d (.int .i64 (yu (λ c=> !S.sR c o) l))/\F=S.ht o:=by
 refine slices_IndexFunc_Lapi_Claim_api_Claim.enter (by simp[SV.au,SV.ok]) (S.jC o (Nat.le_refl 9)) (by simp) ?_;dsimp only[slices_IndexFunc_Lapi_Claim_api_Claim.s,Co.M,Co.J,Co.F,Co.Z,Co.K,Co.L,Co.Y,Co.V,Co.I,Co.S];refine SW.seq (SW.g0 cj Zm af ?_);refine SW.seq (SW.seq (SW.g0 cj Zm af ?_));have nd:((S.ht o).map (·.1)).Nodup:=by simp
 refine SW.block (SW.loop (α:={i:Nat // i<=l.length/\∀ y,y∈l.take i->(!S.sR y o)=false}) (λ i=>⟨[(8,i64 i.1),(7,i64 l.length),(0,.d (.sl l.length (l.flatMap Cm.ds))),(1,.fn (.func shape_Shape_target_1.f) [] [.ptr 7 0,.ptr 8 0]),(4,.d (.int .i64 0))],S.ht o,9⟩) (λ i=>l.length - i.1) ⟨0,by omega,by simp⟩ id ?_ ?_)
 .exact aH.same (by simp) (by simp[aL,List.lookup,SV.aC,SV.aU,SV.ok,SV.au]) (S.jC o (Nat.le_refl 9)) (aK nd)
 rintro⟨i,hi,hall⟩;dsimp only
 by_cases h:i<l.length
 .have h1:decide ((i:Int)<l.length)=true:=by simp only[decide_eq_true_eq];omega
  obtain⟨x,hx⟩:=aP h;have e2:IntKind.i64.wrap ((i:Int)+1)=((i+1:Nat):Int):=wrap_i64 _ (by omega);have hc:=I5 S o x;refine SW.seq (SW.g0 cj Zm h1 ?_);refine SW.seq (SW.an rfl (SW.skip (SW.seq (SW.block (SW.seq (SW.g0 cj Zm af ?_))))));refine SW.seq ?_;rcases h2:S.sR x o with _|_<;>rw[h2] at hc
  .refine SW.g1 cj Zm (Zq (ug hx) (pR hx)) hc ?_
   refine SW.an rfl (SW.seq (SW.g0 cj Zm af ?_));refine SW.ret ?_;exact End.mk (S.ht o) (h4:=⟨by rw[FJ hall hx (by rw[h2];rfl)];rfl,rfl⟩) (h6:=S.jC o (Nat.le_refl 9))
  ·
   refine SW.g1 cj Zm (Zq (ug hx) (pR hx)) hc ?_;refine SW.ah rfl (SW.skip (SW.g0 cj Zm e2 ?_));exact⟨⟨i+1,by omega,λ y hy=>by rw[bt hx,List.mem_append,List.mem_singleton] at hy;exact hy.elim (hall y) λ e=>by rw[e,h2];rfl⟩,id,by simp;omega,aH.same (by simp) (by simp[aL,List.lookup,SV.aC,SV.aU,SV.ok,SV.au]) (S.jC o (Nat.le_refl 9)) (aK nd)⟩
 .have h1:decide ((i:Int)<l.length)=false:=by simp only[decide_eq_false_iff_not];omega
  have hi2:i=l.length:=by omega
  subst hi2;rw[List.take_length] at hall;refine SW.seq (SW.g0 cj Zm h1 ?_);refine SW.seq (SW.ah rfl (SW.exit ?_));refine(?_:Sl.SW _ _ _ _ _ _);refine SW.seq (SW.g0 cj Zm af ?_);refine SW.ret ?_;exact End.mk (S.ht o) (h4:=⟨by rw[C6 hall];rfl,rfl⟩) (h6:=S.jC o (Nat.le_refl 9))
end
end
section
section
attribute [local irreducible] SW RW aF SC ai ak Cm.sv
theorem I7 (S:Sh)(o:ag)(l:List Cm)(hl:l.length<=9223372036854775807)(k:Nat):aF Tryz.prog slices_IndexFunc_Lapi_Claim_api_Claim.f [.d (.sl l.length (l.flatMap Cm.ds)),.fn (.func 175) [] [.ptr 7 0,.ptr 8 0]] (S.ht o) k 0 (.d (.int .i64 (yu (λ c=> !S.sR c o) l))) (S.ht o):=
 S.M6 o (I6 S o l hl) k rfl (λ _=>rfl)
set_option maxHeartbeats 4000000 in
theorem FL (S:Sh)(o:ag)(l:List Cm)(hl:l.length<=9223372036854775807):SB Tryz.prog slices_ContainsFunc_Lapi_Claim_api_Claim.f [.d (.sl l.length (l.flatMap Cm.ds)),.fn (.func 175) [] [.ptr 7 0,.ptr 8 0]] (S.ht o) 9 0 λ r F=>r=bl (l.any λ c=> !S.sR c o)/\F=S.ht o:=by
 refine slices_ContainsFunc_Lapi_Claim_api_Claim.enter (by simp[SV.au,SV.ok]) (S.jC o (Nat.le_refl 9)) (by simp) ?_;dsimp only[slices_ContainsFunc_Lapi_Claim_api_Claim.s,Co.M,Co.J,Co.F,Co.B,Co.Q,Co.Y,Co.S];have hc:=I7 S o l hl;have ha:=FK (λ c=> !S.sR c o) l;obtain⟨z,hz⟩:∃ z,yu (λ c=> !S.sR c o) l=z:=⟨_,rfl⟩;obtain⟨b,hb⟩:∃ b,(l.any λ c=> !S.sR c o)=b:=⟨_,rfl⟩;rw[hz,hb] at ha;rw[hz] at hc;rw[hb];refine SW.seq (SW.g0 [0,1,4] Zm af ?_);refine SW.seq (SW.g1 [0,1,4] Zm ha hc ?_);refine SW.ret ?_;exact End.mk (S.ht o) (h4:=⟨rfl,rfl⟩) (h6:=S.jC o (Nat.le_refl 9))
theorem FM (S:Sh)(o:ag)(l:List Cm)(hl:l.length<=9223372036854775807)(k:Nat):aF Tryz.prog slices_ContainsFunc_Lapi_Claim_api_Claim.f [.d (.sl l.length (l.flatMap Cm.ds)),.fn (.func 175) [] [.ptr 7 0,.ptr 8 0]] (S.ht o) k 0 (bl (l.any λ c=> !S.sR c o)) (S.ht o):=
 S.M6 o (FL S o l hl) k rfl (λ _=>rfl)
theorem B_ (S:Sh)(d:Dt)(o:ag)(k:Nat):aF Tryz.prog shape_Shape_cred.f [.ptr 0 0,.agg d.cells,.agg o.cells] S.h0 k 0 (.de [.agg (S.cr d).cells,bl (S.yt d o)]) S.h0:=
 S.at_ (FE S d o) (λ ρ=>by simp[SV.aU,SV.aC,Dt.aA,ag.aA]) (λ ρ=>by simp[SV.aU,SV.aC,Cr.aA]) n0 rG k
set_option maxHeartbeats 8000000 in
theorem I8 (S:Sh)(o:ag)(hk:o.kind<256)(yw:o.mZ)(ab:Bool)(m:Nat)(hab:∀ k,aF Tryz.prog tree_Tree_Above.f [.ptr 4 0,.agg o.aN.cells,.agg o.at_.cells] S.h4 k m (bl ab) S.h4):
  SB Tryz.prog shape_Shape_target.f [.ptr 0 0,.agg o.cells] S.h0 7 0 λ r F=>r=bl (S.tgt o ab)/\F=S.h0:=by
 refine shape_Shape_target.enter (by simp[SV.au,SV.ok]) (S.ok (Nat.le_refl 7)) (by simp) ?_;dsimp only[shape_Shape_target.s,Co.M,Co.J,Co.H,Co.F,Co.C,Co.B,Co.b8,Co.ay,Co.bu,Co.i6,Co.T,Co.K,Co.E,Co.Q,Co.R,Co.x,Co.W,Co.U,Co.O,Co.D,Co.S];have h6:=S.ok (Nat.le_refl 7);refine SW.seq (SW.g0 bi Zm af ?_);refine SW.seq (SW.seq (SW.g0 bi Zm af ?_));refine SW.block (SW.seq ?_)
 by_cases k2:o.kind=2
 .have q2:(((o.kind:Nat):Int) == 2)=true:=by rw[k2];rfl
  have e:S.tgt o ab=(S.yt o.at_ o && ab):=by unfold Sh.tgt;rw[if_pos k2]
  rw[e];have hc:=B_ S o.at_ o;obtain⟨c,hcc⟩:∃ c,S.cr o.at_=c:=⟨_,rfl⟩;rw[hcc] at hc;refine SW.g0 bi Zm q2 ?_;refine SW.an rfl (SW.seq (SW.g1 bi Zm af hc ?_));refine SW.seq ?_;rcases h:S.yt o.at_ o with _|_
  .refine SW.g1 bi Zm af hab ?_
   refine SW.ret ?_;exact End.mk S.h0 (h4:=⟨rfl,rfl⟩) (h6:=h6)
  .refine SW.g1 bi Zm af hab ?_
   refine SW.ret ?_;exact End.mk S.h0 (h4:=⟨rfl,rfl⟩) (h6:=h6) (h7:=by show 7+0<=10+m;omega)
 have q2:(((o.kind:Nat):Int) == 2)=false:=by simp;omega
 refine SW.g0 bi Zm q2 ?_;refine SW.ah rfl (SW.seq (SW.seq ?_))
 by_cases k45:o.kind=4\/o.kind=5
 .have e:S.tgt o ab=S.line o.at_ o:=by unfold Sh.tgt;rw[if_neg k2,if_pos k45]
  rw[e];have hl:=B9 S o.at_ o;rcases k45 with k4|k5
  .have q4:(((o.kind:Nat):Int) == 4)=true:=by rw[k4];rfl
   refine SW.g0 bi Zm q4 ?_;refine SW.an rfl (SW.skip (SW.an rfl (SW.seq (SW.g1 bi Zm af hl ?_))));refine SW.ret ?_;exact End.mk S.h0 (h4:=⟨rfl,rfl⟩) (h6:=h6)
  .have q4:(((o.kind:Nat):Int) == 4)=false:=by simp;omega
   have q5:(((o.kind:Nat):Int) == 5)=true:=by rw[k5];rfl
   refine SW.g0 bi Zm q4 ?_;refine SW.ah rfl (SW.g0 bi Zm q5 ?_);refine SW.an rfl (SW.seq (SW.g1 bi Zm af hl ?_));refine SW.ret ?_;exact End.mk S.h0 (h4:=⟨rfl,rfl⟩) (h6:=h6)
 have q4:(((o.kind:Nat):Int) == 4)=false:=by simp;omega
 have q5:(((o.kind:Nat):Int) == 5)=false:=by simp;omega
 refine SW.g0 bi Zm q4 ?_;refine SW.ah rfl (SW.g0 bi Zm q5 ?_);refine SW.ah rfl (SW.seq (SW.seq ?_))
 by_cases k67:o.kind=6\/o.kind=7
 .have e:S.tgt o ab=S.sR ⟨o.at_,o.j5⟩ o:=by unfold Sh.tgt;rw[if_neg k2,if_neg k45,if_pos k67]
  rw[e];have hl:=FG S ⟨o.at_,o.j5⟩ o;have hb:=Cm.Ex o.at_ o.j5;rcases k67 with k6|k7
  .have q6:(((o.kind:Nat):Int) == 6)=true:=by rw[k6];rfl
   refine SW.g0 bi Zm q6 ?_;refine SW.an rfl (SW.skip (SW.an rfl (SW.seq (SW.g1 bi Zm hb hl ?_))));refine SW.ret ?_;exact End.mk S.h0 (h4:=⟨rfl,rfl⟩) (h6:=h6)
  .have q6:(((o.kind:Nat):Int) == 6)=false:=by simp;omega
   have q7:(((o.kind:Nat):Int) == 7)=true:=by rw[k7];rfl
   refine SW.g0 bi Zm q6 ?_;refine SW.ah rfl (SW.g0 bi Zm q7 ?_);refine SW.an rfl (SW.seq (SW.g1 bi Zm hb hl ?_));refine SW.ret ?_;exact End.mk S.h0 (h4:=⟨rfl,rfl⟩) (h6:=h6)
 have q6:(((o.kind:Nat):Int) == 6)=false:=by simp;omega
 have q7:(((o.kind:Nat):Int) == 7)=false:=by simp;omega
 refine SW.g0 bi Zm q6 ?_;refine SW.ah rfl (SW.g0 bi Zm q7 ?_);refine SW.ah rfl (SW.seq ?_)
 by_cases k8:o.kind=8
 .have e:S.tgt o ab= !(o.cl.any λ c=> !S.sR c o):=by unfold Sh.tgt;rw[if_neg k2,if_neg k45,if_neg k67,if_pos k8]
  rw[e];have q8:(((o.kind:Nat):Int) == 8)=true:=by rw[k8];rfl
  have hcf:=FM S o o.cl yw.le;have hle:=yw.eq;obtain⟨b,hb⟩:∃ b,(o.cl.any λ c=> !S.sR c o)=b:=⟨_,rfl⟩;rw[hb] at hcf ⊢;refine SW.g0 bi Zm q8 ?_;refine SW.an rfl (SW.seq ?_);rcases b with _|_
  .refine SW.g1 bi Zm hle hcf ?_
   refine SW.ret ?_;exact End.mk S.h0 (h4:=⟨rfl,rfl⟩) (h6:=h6)
  .refine SW.g1 bi Zm hle hcf ?_
   refine SW.ret ?_;exact End.mk S.h0 (h4:=⟨rfl,rfl⟩) (h6:=h6)
 have q8:(((o.kind:Nat):Int) == 8)=false:=by simp;omega
 have e:S.tgt o ab=true:=by unfold Sh.tgt;rw[if_neg k2,if_neg k45,if_neg k67,if_neg k8]
 rw[e];refine SW.g0 bi Zm q8 ?_;refine SW.ah rfl (SW.skip (SW.seq (SW.g0 bi Zm af ?_)));refine SW.ret ?_;exact End.mk S.h0 (h4:=⟨rfl,rfl⟩) (h6:=h6)
theorem L1 (S:Sh)(o:ag)(hk:o.kind<256)(yw:o.mZ)(ab:Bool)(m:Nat)(hab:∀ k,aF Tryz.prog tree_Tree_Above.f [.ptr 4 0,.agg o.aN.cells,.agg o.at_.cells] S.h4 k m (bl ab) S.h4)(k:Nat):
  aF Tryz.prog shape_Shape_target.f [.ptr 0 0,.agg o.cells] S.h0 k 0 (bl (S.tgt o ab)) S.h0:=
 S.at_ (I8 S o hk yw ab m hab) (λ ρ=>by simp[SV.aU,SV.aC,ag.aA]) (λ _=>rfl) n0 rG k
end
end
section
def kg (c:Cr)(kind:Nat):Bool:=bits .and .u8 (c.aT:Int) (fO kind:Int) != (fO kind:Int)
theorem L2 (a:Cr)(o:ag)(g:Bool)(k:Nat):Hp.aC (fz [11,9,8] k) [(0,.box 4 [bl g]),(1,.box 158 a.cells),(2,.box 43 o.cells)]=[(11,.box 4 [bl g]),(9,.box 158 a.cells),(8,.box 43 o.cells)]:=by
 simp only[Hp.aC,List.map_cons,List.map_nil,Ob.aC,SV.aU,SV.aC,ag.aA,Cr.aA];rfl
theorem L3 (a:Cr)(o:ag)(k:Nat):Hp.aC (fz [9,8] k) [(0,.box 158 a.cells),(1,.box 43 o.cells)]=[(9,.box 158 a.cells),(8,.box 43 o.cells)]:=by
 simp only[Hp.aC,List.map_cons,List.map_nil,Ob.aC,SV.aU,SV.aC,ag.aA,Cr.aA];rfl
section
attribute [local irreducible] SW RW aF SC ai ak fO
theorem FN (o:ag):SB Tryz.prog shape_Shape_Why_1.f [.ptr 0 0] [(0,.box 43 o.cells)] 1 0 λ r F=>r=bl (decide ((o.kind:Int)>8))/\F=[(0,.box 43 o.cells)]:=by
 refine shape_Shape_Why_1.enter (by first|rfl|simp[SV.ok,SV.au]) (by first|rfl|simp[Hp.ok,Ob.ok,SV.ok,SV.au,aB.aj]) (by simp) ?_;dsimp only[shape_Shape_Why_1.s,Co.M,Co.J,Co.F,Co.B,Co.b8,Co.T,Co.D,Co.S];refine SW.seq (SW.g0 [0,1] Zm af ?_);refine SW.seq (SW.g0 [0,1] Zm af ?_);refine SW.ret ?_;exact End.mk [(0,.box 43 o.cells)] (h4:=⟨rfl,rfl⟩)
theorem FO (o:ag)(k:Nat):aF Tryz.prog shape_Shape_Why_1.f [.ptr 8 0] [(8,.box 43 o.cells)] k 0 (bl (decide ((o.kind:Int)>8))) [(8,.box 43 o.cells)]:=by
 have:=SB.nB [8] (FN o) (by decide) (λ i hi=>by rw[show i=0 by simp at hi;omega];simp[aa]) k;simp only[Hp.aC,List.map_cons,List.map_nil,Ob.aC,SV.aU,SV.aC,ag.aA] at this;exact this
theorem FP (S:Sh)(o:ag):SB Tryz.prog shape_Shape_Why_2.f [.ptr 7 0,.ptr 8 0] (S.ht o) 9 0 λ r F=>r=bl (!S.aI o)/\F=S.ht o:=by
 refine shape_Shape_Why_2.enter (by simp[SV.au,SV.ok]) (S.jC o (Nat.le_refl 9)) (by simp) ?_;dsimp only[shape_Shape_Why_2.s,Co.M,Co.J,Co.F,Co.B,Co.T,Co.K,Co.Q,Co.O,Co.S];have hc:∀ k,aF Tryz.prog shape_Shape_cart.f [.ptr 0 0,.agg o.cells] S.h0 k 0 (bl (S.aI o)) S.h0:=S.at_ (FD S o) (λ ρ=>by simp[SV.aU,SV.aC,ag.aA]) (λ _=>rfl) n0 rG;refine SW.seq (SW.g0 eJ Zm af ?_);refine SW.seq (SW.g1 eJ Zm af hc ?_);refine SW.ret ?_;exact End.mk (S.ht o) (h4:=⟨rfl,rfl⟩) (h6:=S.jC o (Nat.le_refl 9))
theorem FQ (S:Sh)(o:ag)(k:Nat):aF Tryz.prog shape_Shape_Why_2.f [.ptr 7 0,.ptr 8 0] (S.ht o) k 0 (bl (!S.aI o)) (S.ht o):=S.M6 o (FP S o) k rfl (λ _=>rfl)
theorem FR (g h:Bool):SB Tryz.prog shape_Shape_Why_3.f [.ptr 0 0,.ptr 1 0] [(0,.box 4 [bl g]),(1,.box 4 [bl h])] 2 0 λ r F=>r=bl (!g && !h)/\F=[(0,.box 4 [bl g]),(1,.box 4 [bl h])]:=by
 refine shape_Shape_Why_3.enter (by first|rfl|simp[SV.ok,SV.au]) (by first|rfl|simp[Hp.ok,Ob.ok,SV.ok,SV.au,aB.aj]) (by simp) ?_;dsimp only[shape_Shape_Why_3.s,Co.M,Co.J,Co.H,Co.F,Co.B,Co.T,Co.U,Co.O,Co.S];refine SW.seq (SW.g0 eJ Zm af ?_);refine SW.seq ?_;rcases g with _|_
 .refine SW.g0 eJ Zm af ?_
  refine SW.ret ?_;exact End.mk _ (h3:=λ _ _ h=>h) (h4:=⟨by simp[ez],rfl⟩)
 .refine SW.g0 eJ Zm af ?_
  refine SW.ret ?_;exact End.mk _ (h3:=λ _ _ h=>h) (h4:=⟨rfl,rfl⟩)
theorem FT (g h:Bool)(k:Nat):aF Tryz.prog shape_Shape_Why_3.f [.ptr 11 0,.ptr 10 0] [(11,.box 4 [bl g]),(10,.box 4 [bl h])] k 0 (bl (!g && !h)) [(11,.box 4 [bl g]),(10,.box 4 [bl h])]:=by
 have:=SB.nB [11,10] (FR g h) (by decide) (λ i hi=>by rcases(show i=0\/i=1 by simp at hi;omega) with rfl|rfl<;>simp[aa]) k;exact this
theorem FU (g:Bool)(c:Cr)(o:ag):SB Tryz.prog shape_Shape_Why_4.f [.ptr 0 0,.ptr 1 0,.ptr 2 0] [(0,.box 4 [bl g]),(1,.box 158 c.cells),(2,.box 43 o.cells)] 3 0 λ r F=>r=bl (!g && ((c.hold:Int) != (o.who:Int)))/\F=[(0,.box 4 [bl g]),(1,.box 158 c.cells),(2,.box 43 o.cells)]:=by
 refine shape_Shape_Why_4.enter (by first|rfl|simp[SV.ok,SV.au]) (by first|rfl|simp[Hp.ok,Ob.ok,SV.ok,SV.au,aB.aj]) (by simp) ?_;dsimp only[shape_Shape_Why_4.s,Co.M,Co.J,Co.H,Co.F,Co.B,Co.T,Co.U,Co.O,Co.S];refine SW.seq (SW.g0 jp Zm af ?_);refine SW.seq ?_;rcases g with _|_
 .refine SW.g0 jp Zm af ?_
  refine SW.ret ?_;exact End.mk _ (h3:=λ _ _ h=>h) (h4:=⟨by simp[ez],rfl⟩)
 .refine SW.g0 jp Zm af ?_
  refine SW.ret ?_;exact End.mk _ (h3:=λ _ _ h=>h) (h4:=⟨rfl,rfl⟩)
theorem FV (g:Bool)(c:Cr)(o:ag)(k:Nat):aF Tryz.prog shape_Shape_Why_4.f [.ptr 11 0,.ptr 9 0,.ptr 8 0] [(11,.box 4 [bl g]),(9,.box 158 c.cells),(8,.box 43 o.cells)] k 0 (bl (!g && ((c.hold:Int) != (o.who:Int)))) [(11,.box 4 [bl g]),(9,.box 158 c.cells),(8,.box 43 o.cells)]:=by
 have:=SB.nB [11,9,8] (FU g c o) (by decide) (λ i hi=>by rcases(show i=0\/i=1\/i=2 by simp at hi;omega) with rfl|rfl|rfl<;>simp[aa]) k;rw[L2] at this;exact this
theorem FW (c:Cr)(o:ag)(hk:o.kind<256):SB Tryz.prog shape_Shape_Why_5.f [.ptr 0 0,.ptr 1 0] [(0,.box 158 c.cells),(1,.box 43 o.cells)] 2 0 λ r F=>r=bl (kg c o.kind)/\F=[(0,.box 158 c.cells),(1,.box 43 o.cells)]:=by
 refine shape_Shape_Why_5.enter (by first|rfl|simp[SV.ok,SV.au]) (by first|rfl|simp[Hp.ok,Ob.ok,SV.ok,SV.au,aB.aj]) (by simp) ?_;dsimp only[shape_Shape_Why_5.s,Co.M,Co.J,Co.F,Co.B,Co.T,Co.P,Co.V,Co.D,Co.S];have hn:=FI o.kind hk;refine SW.seq (SW.g0 eJ Zm af ?_);refine SW.seq (SW.g1 eJ Zm af hn ?_);refine SW.ret ?_;exact End.mk _ (h3:=λ _ _ h=>h) (h4:=⟨rfl,rfl⟩)
theorem FX (c:Cr)(o:ag)(hk:o.kind<256)(k:Nat):aF Tryz.prog shape_Shape_Why_5.f [.ptr 9 0,.ptr 8 0] [(9,.box 158 c.cells),(8,.box 43 o.cells)] k 0 (bl (kg c o.kind)) [(9,.box 158 c.cells),(8,.box 43 o.cells)]:=by
 have:=SB.nB [9,8] (FW c o hk) (by decide) (λ i hi=>by rcases(show i=0\/i=1 by simp at hi;omega) with rfl|rfl<;>simp[aa]) k;rw[L3] at this;exact this
theorem L4 (S:Sh)(o:ag)(k:Nat):aF Tryz.prog tree_Tree_Why.f [.ptr 4 0,.agg o.cells] S.h4 k 4 (i64 (S.T.why o)) S.h4:=Fl S.LW o k
theorem FY (S:Sh)(o:ag):SB Tryz.prog shape_Shape_Why_6.f [.ptr 8 0,.ptr 7 0] (S.ht o) 9 0 λ r F=>r=bl (decide (o.kind=1) && decide (S.T.why o≠0))/\F=S.ht o:=by
 refine shape_Shape_Why_6.enter (by simp[SV.au,SV.ok]) (S.jC o (Nat.le_refl 9)) (by simp) ?_;dsimp only[shape_Shape_Why_6.s,Co.M,Co.J,Co.H,Co.F,Co.C,Co.Z,Co.B,Co.b8,Co.T,Co.U,Co.D,Co.S];have hw:=L4 S o;obtain⟨w,hww⟩:∃ w,S.T.why o=w:=⟨_,rfl⟩;rw[hww] at hw ⊢;refine SW.seq (SW.g0 eJ Zm af ?_);refine SW.seq ?_
 by_cases h:o.kind=1
 .have q:(((o.kind:Nat):Int) == 1)=true:=by rw[h];rfl
  have hz:(((w:Nat):Int) != 0)=decide (w≠0):=by rw[Bool.eq_iff_iff];simp
  refine SW.g1 eJ Zm (Zq q hz) hw ?_;refine SW.ret ?_;exact End.mk (S.ht o) (h4:=⟨by simp[ez,h],rfl⟩) (h6:=S.jC o (Nat.le_refl 9))
 .have q:(((o.kind:Nat):Int) == 1)=false:=by simp;omega
  refine SW.g1 eJ Zm q hw ?_;refine SW.ret ?_;exact End.mk (S.ht o) (h4:=⟨by simp[ez,h],rfl⟩) (h6:=S.jC o (Nat.le_refl 9))
theorem FZ (S:Sh)(o:ag)(k:Nat):aF Tryz.prog shape_Shape_Why_6.f [.ptr 8 0,.ptr 7 0] (S.ht o) k 0 (bl (decide (o.kind=1) && decide (S.T.why o≠0))) (S.ht o):=S.M6 o (FY S o) k rfl (λ _=>rfl)
theorem F3 (S:Sh)(o:ag)(b:Bool)(hc:∀ k,aF Tryz.prog shape_Shape_target.f [.ptr 0 0,.agg o.cells] S.h0 k 0 (bl b) S.h0):SB Tryz.prog shape_Shape_Why_7.f [.ptr 7 0,.ptr 8 0] (S.ht o) 9 0 λ r F=>r=bl (!b)/\F=S.ht o:=by
 refine shape_Shape_Why_7.enter (by simp[SV.au,SV.ok]) (S.jC o (Nat.le_refl 9)) (by simp) ?_;dsimp only[shape_Shape_Why_7.s,Co.M,Co.J,Co.F,Co.B,Co.T,Co.K,Co.Q,Co.O,Co.S];refine SW.seq (SW.g0 eJ Zm af ?_);refine SW.seq (SW.g1 eJ Zm af hc ?_);refine SW.ret ?_;exact End.mk (S.ht o) (h4:=⟨rfl,rfl⟩) (h6:=S.jC o (Nat.le_refl 9))
theorem F4 (S:Sh)(o:ag)(b:Bool)(hc:∀ k,aF Tryz.prog shape_Shape_target.f [.ptr 0 0,.agg o.cells] S.h0 k 0 (bl b) S.h0)(k:Nat):aF Tryz.prog shape_Shape_Why_7.f [.ptr 7 0,.ptr 8 0] (S.ht o) k 0 (bl (!b)) (S.ht o):=S.M6 o (F3 S o b hc) k rfl (λ _=>rfl)
theorem F5 (S:Sh):SB Tryz.prog shape_Shape_none.f [.ptr 0 0] S.h0 7 0 λ r F=>r=bl false/\F=S.h0:=by
 refine shape_Shape_none.enter (by simp[SV.au,SV.ok]) (S.ok (Nat.le_refl 7)) (by simp) ?_;dsimp only[shape_Shape_none.s,Co.M,Co.G,Co.J,Co.H,Co.F,Co.B,Co.S];(repeat (first|refine SW.seq ?_|refine SW.block ?_|refine SW.g0 im Zm af ?_|refine SW.skip ?_|refine SW.exit ?_|refine SW.ret ?_|refine SW.an rfl ?_|refine SW.ah rfl ?_));exact End.mk S.h0 (h4:=⟨rfl,rfl⟩) (h6:=S.ok (Nat.le_refl 7))
theorem uh (S:Sh)(k:Nat):aF Tryz.prog shape_Shape_none.f [.ptr 0 0] S.h0 k 0 (bl false) S.h0:=S.at_ (F5 S) (λ _=>rfl) (λ _=>rfl) n0 rG k
end
end
section
def sS:List SV:=[.d (.int .i64 2),.fn (.func 125) [] [.ptr 8 0],.d (.int .i64 271),.fn (.func 126) [] [.ptr 7 0,.ptr 8 0],.d (.int .i64 272),.fn (.func 128) [] [.ptr 11 0,.ptr 10 0],.d (.int .i64 273),.fn (.func 129) [] [.ptr 11 0,.ptr 9 0,.ptr 8 0],.d (.int .i64 274),.fn (.func 130) [] [.ptr 9 0,.ptr 8 0],.d (.int .i64 275),.fn (.func 132) [] [.ptr 8 0,.ptr 7 0],.d (.int .i64 276),.fn (.func 134) [] [.ptr 7 0,.ptr 8 0]]
theorem F6:List.take 2 sS=[.d (.int .i64 2),.fn (.func 125) [] [.ptr 8 0]]:=rfl
theorem F7:List.take 2 (List.drop 2 sS)=[.d (.int .i64 271),.fn (.func 126) [] [.ptr 7 0,.ptr 8 0]]:=rfl
theorem F8:List.take 2 (List.drop 4 sS)=[.d (.int .i64 272),.fn (.func 128) [] [.ptr 11 0,.ptr 10 0]]:=rfl
theorem F9:List.take 2 (List.drop 6 sS)=[.d (.int .i64 273),.fn (.func 129) [] [.ptr 11 0,.ptr 9 0,.ptr 8 0]]:=rfl
theorem F_:List.take 2 (List.drop 8 sS)=[.d (.int .i64 274),.fn (.func 130) [] [.ptr 9 0,.ptr 8 0]]:=rfl
theorem Ga:List.take 2 (List.drop 10 sS)=[.d (.int .i64 275),.fn (.func 132) [] [.ptr 8 0,.ptr 7 0]]:=rfl
theorem Gb:List.take 2 (List.drop 12 sS)=[.d (.int .i64 276),.fn (.func 134) [] [.ptr 7 0,.ptr 8 0]]:=rfl
theorem NV:∀ (x0 x1 x2 x3 x4 x5 x6 x7 x8 x9 OC OD OE OF a0 b0 a1 b1 a2 b2 a3 b3 a4 b4 a5 b5 a6 b6:SV),(cq (cq (cq (cq (cq (cq (cq ([x0,x1,x2,x3,x4,x5,x6,x7,x8,x9,OC,OD,OE,OF]) 0 [a0,b0]) 2 [a1,b1]) 4 [a2,b2]) 6 [a3,b3]) 8 [a4,b4]) 10 [a5,b5]) 12 [a6,b6])=[a0,b0,a1,b1,a2,b2,a3,b3,a4,b4,a5,b5,a6,b6]:=λ _ _ _ _ _ _ _ _ _ _ _ _ _ _ _ _ _ _ _ _ _ _ _ _ _ _ _ _=>rfl
@[simp] theorem NW:sS.length=14:=rfl
theorem me:SV.au (λ n=>decide (n<12)) sS=true:=rfl
def Sh.rH (S:Sh)(o:ag)(ab:Bool):Nat->Bool
 | 0=>decide ((o.kind:Int)>8)
 | 1=> !S.aI o
 | 2=> !((o.kind:Int) == 0) && !S.yt o.aN o
 | 3=> !((o.kind:Int) == 0) && (((S.cr o.aN).hold:Int) != (o.who:Int))
 | 4=>kg (S.cr o.aN) o.kind
 | 5=>decide (o.kind=1) && decide (S.T.why o≠0)
 | _=> !S.tgt o ab
def Sh.why (S:Sh)(o:ag)(ab:Bool):Nat:=
 if S.rH o ab 0 then 2 else if S.rH o ab 1 then 271 else if S.rH o ab 2 then 272 else if S.rH o ab 3 then 273 else if S.rH o ab 4 then 274 else if S.rH o ab 5 then 275 else if S.rH o ab 6 then 276 else 0
abbrev Sh.hw (S:Sh)(o:ag)(c:Cr)(g h:Bool):Hp:=(11,.box 4 [bl g])::(10,.box 4 [bl h])::(9,.box 158 c.cells)::S.ht o
theorem Sh.NX (S:Sh)(o:ag)(c:Cr)(g h:Bool){k:Nat}(hk:12<=k):(S.hw o c g h).ok (λ n=>decide (n<k))=true:=by
 have:=S.jC o (k:=k) (by omega);simp only[Sh.hw,Hp.ok,List.all_cons,Ob.ok,Cr.aj,SV.au,SV.ok,Bool.and_true,Bool.and_eq_true,decide_eq_true_eq] at this ⊢;exact⟨by omega,by omega,by omega,this⟩
section
attribute [local irreducible] SW RW aF SC ai ak fO Sh.tgt Sh.aI Sh.yt kg sS
set_option maxHeartbeats 8000000 in
theorem I9 (S:Sh)(o:ag)(hk:o.kind<256)(ab:Bool)(hT:∀ k,aF Tryz.prog shape_Shape_target.f [.ptr 0 0,.agg o.cells] S.h0 k 0 (bl (S.tgt o ab)) S.h0):
  SB Tryz.prog shape_Shape_Why.f [.ptr 0 0,.agg o.cells] S.h0 7 0 λ r F=>r=i64 (S.why o ab)/\F=S.h0:=by
 refine shape_Shape_Why.enter (by simp[SV.au,SV.ok]) (S.ok (Nat.le_refl 7)) (by simp) ?_;dsimp only[shape_Shape_Why.s,Co.M,Co.J,Co.F,Co.Z,Co.b8,Co.ay,Co.bu,Co.i6,Co.T,Co.K,Co.E,Co.P,Co.R,Co.x,Co.W,Co.Y,Co.D,Co.S];have h6:=S.ok (Nat.le_refl 7);have hn:=uh S;refine SW.seq (SW.g0 be Zm af ?_);refine SW.seq (SW.seq (SW.g1 be Zm af hn ?_));refine SW.ah rfl (SW.skip ?_);have hc:=B_ S o.aN o;obtain⟨c,hcc⟩:∃ c,S.cr o.aN=c:=⟨_,rfl⟩;obtain⟨h,hh⟩:∃ h,S.yt o.aN o=h:=⟨_,rfl⟩;obtain⟨g,hg⟩:∃ g,((o.kind:Int) == 0)=g:=⟨_,rfl⟩;have e2:S.rH o ab 2=(!g && !h):=by show(!((o.kind:Int) == 0) && !S.yt o.aN o)=_;rw[hg,hh]
 have e3:S.rH o ab 3=(!g && ((c.hold:Int) != (o.who:Int))):=by show(!((o.kind:Int) == 0) && (((S.cr o.aN).hold:Int) != (o.who:Int)))=_;rw[hg,hcc]
 have e4:S.rH o ab 4=kg c o.kind:=by show kg (S.cr o.aN) o.kind=_;rw[hcc]
 rw[hcc,hh] at hc;refine SW.seq (SW.g1 be Zm af hc ?_);refine SW.seq (SW.g0 be Zm hg ?_);refine SW.seq (SW.seq ?_);have eR:([.d (.int .i64 2),.fn (.func 125) [] [.ptr 8 0],.d (.int .i64 271),.fn (.func 126) [] [.ptr 7 0,.ptr 8 0],.d (.int .i64 272),.fn (.func 128) [] [.ptr 11 0,.ptr 10 0],.d (.int .i64 273),.fn (.func 129) [] [.ptr 11 0,.ptr 9 0,.ptr 8 0],.d (.int .i64 274),.fn (.func 130) [] [.ptr 9 0,.ptr 8 0],.d (.int .i64 275),.fn (.func 132) [] [.ptr 8 0,.ptr 7 0],.d (.int .i64 276),.fn (.func 134) [] [.ptr 7 0,.ptr 8 0]]:List SV)=sS:=by unfold sS;rfl
 refine SW.g0 be Zm (Zq zD (Zq NV eR)) ?_;refine SW.block ?_;have nd:((S.hw o c g h).map (·.1)).Nodup:=by simp
 have hH:=S.NX o c g h (Nat.le_refl 12);have c0:∀ k,aF Tryz.prog 125 [.ptr 8 0] [(8,.box 43 o.cells)] k 0 (bl (S.rH o ab 0)) [(8,.box 43 o.cells)]:=λ k=>FO o k
 have c1:∀ k,aF Tryz.prog 126 [.ptr 7 0,.ptr 8 0] (S.ht o) k 0 (bl (S.rH o ab 1)) (S.ht o):=λ k=>FQ S o k
 have c2:∀ k,aF Tryz.prog 128 [.ptr 11 0,.ptr 10 0] [(11,.box 4 [bl g]),(10,.box 4 [bl h])] k 0 (bl (S.rH o ab 2)) [(11,.box 4 [bl g]),(10,.box 4 [bl h])]:=λ k=>by rw[e2];exact FT g h k
 have c3:∀ k,aF Tryz.prog 129 [.ptr 11 0,.ptr 9 0,.ptr 8 0] [(11,.box 4 [bl g]),(9,.box 158 c.cells),(8,.box 43 o.cells)] k 0 (bl (S.rH o ab 3)) [(11,.box 4 [bl g]),(9,.box 158 c.cells),(8,.box 43 o.cells)]:=λ k=>by rw[e3];exact FV g c o k
 have c4:∀ k,aF Tryz.prog 130 [.ptr 9 0,.ptr 8 0] [(9,.box 158 c.cells),(8,.box 43 o.cells)] k 0 (bl (S.rH o ab 4)) [(9,.box 158 c.cells),(8,.box 43 o.cells)]:=λ k=>by rw[e4];exact FX c o hk k
 have c5:∀ k,aF Tryz.prog 132 [.ptr 8 0,.ptr 7 0] (S.ht o) k 0 (bl (S.rH o ab 5)) (S.ht o):=λ k=>FZ S o k
 have c6:∀ k,aF Tryz.prog 134 [.ptr 7 0,.ptr 8 0] (S.ht o) k 0 (bl (S.rH o ab 6)) (S.ht o):=λ k=>F4 S o _ hT k
 have hw:S.why o ab=if S.rH o ab 0 then 2 else if S.rH o ab 1 then 271 else if S.rH o ab 2 then 272 else if S.rH o ab 3 then 273 else if S.rH o ab 4 then 274 else if S.rH o ab 5 then 275 else if S.rH o ab 6 then 276 else 0:=rfl
 generalize S.rH o ab=rb at c0 c1 c2 c3 c4 c5 c6 hw;rw[hw];clear hw e2 e3 e4 hc hn;refine SW.loop (α:={i:Nat // i<=7/\∀ j,j<i->rb j=false}) (λ i=>⟨[(38,i64 i.1),(37,.agg sS)],S.hw o c g h,12⟩) (λ i=>7 - i.1) ⟨0,by omega,λ j hj=>absurd hj (by omega)⟩ id ?_ ?_
 .exact aH.same (by simp) (by simp[aL,List.lookup,SV.aC,SV.bS,SV.ok,me]) hH (aK nd)
 rintro⟨i,hi,hz⟩;have hdrop:∀ (o2:Ob) (x:Nat×Ob),x∈S.hw o c g h->lk ((12,o2)::S.hw o c g h) x.1=some x.2:=λ o2 x hx=>by
  have hl:=aK nd x hx;rw[aa,if_neg ?_]
  .exact hl
  .intro e
   have:=(Hp.fC hH hl).1;simp at this;omega
 match i,hi,hz with
 | 0,_,hz=>
  rcases(Bool.eq_false_or_eq_true (rb 0)).symm with h0|h0
  .rw[h0] at c0
   (repeat (first|refine SW.seq ?_|refine SW.block ?_|refine SW.g1 be Zm (Zq F6 gJ) c0 ?_|refine SW.skip ?_|refine SW.exit ?_|refine SW.ret ?_|refine SW.an rfl ?_|refine SW.ah rfl ?_));exact⟨⟨1,by omega,λ j hj=>by
    rcases Nat.lt_succ_iff_lt_or_eq.1 hj with hj|rfl
    .exact hz j hj
    .exact h0⟩,id,by dsimp only;omega,aH.same (by simp) (by simp[aL,List.lookup,SV.aC,SV.bS,SV.ok,me]) hH (λ x hx=>hdrop _ x hx)⟩
  .rw[h0] at c0
   (repeat (first|refine SW.seq ?_|refine SW.block ?_|refine SW.g1 be Zm (Zq F6 gJ) c0 ?_|refine SW.skip ?_|refine SW.exit ?_|refine SW.ret ?_|refine SW.an rfl ?_|refine SW.ah rfl ?_));exact End.mk S.h0 (h4:=⟨by  rw[if_pos h0];rfl,rfl⟩) (h6:=h6)
 | 1,_,hz=>
  have z0:rb 0=false:=hz 0 (by omega);rcases(Bool.eq_false_or_eq_true (rb 1)).symm with h0|h0
  .rw[h0] at c1
   (repeat (first|refine SW.seq ?_|refine SW.block ?_|refine SW.g1 be Zm (Zq F7 gJ) c1 ?_|refine SW.skip ?_|refine SW.exit ?_|refine SW.ret ?_|refine SW.an rfl ?_|refine SW.ah rfl ?_));exact⟨⟨2,by omega,λ j hj=>by
    rcases Nat.lt_succ_iff_lt_or_eq.1 hj with hj|rfl
    .exact hz j hj
    .exact h0⟩,id,by dsimp only;omega,aH.same (by simp) (by simp[aL,List.lookup,SV.aC,SV.bS,SV.ok,me]) hH (λ x hx=>hdrop _ x hx)⟩
  .rw[h0] at c1
   (repeat (first|refine SW.seq ?_|refine SW.block ?_|refine SW.g1 be Zm (Zq F7 gJ) c1 ?_|refine SW.skip ?_|refine SW.exit ?_|refine SW.ret ?_|refine SW.an rfl ?_|refine SW.ah rfl ?_));exact End.mk S.h0 (h4:=⟨by rw[if_neg (by rw[z0];simp)];rw[if_pos h0];rfl,rfl⟩) (h6:=h6)
 | 2,_,hz=>
  have z0:rb 0=false:=hz 0 (by omega);have z1:rb 1=false:=hz 1 (by omega);rcases(Bool.eq_false_or_eq_true (rb 2)).symm with h0|h0
  .rw[h0] at c2
   (repeat (first|refine SW.seq ?_|refine SW.block ?_|refine SW.g1 be Zm (Zq F8 gJ) c2 ?_|refine SW.skip ?_|refine SW.exit ?_|refine SW.ret ?_|refine SW.an rfl ?_|refine SW.ah rfl ?_));exact⟨⟨3,by omega,λ j hj=>by
    rcases Nat.lt_succ_iff_lt_or_eq.1 hj with hj|rfl
    .exact hz j hj
    .exact h0⟩,id,by dsimp only;omega,aH.same (by simp) (by simp[aL,List.lookup,SV.aC,SV.bS,SV.ok,me]) hH (λ x hx=>hdrop _ x hx)⟩
  .rw[h0] at c2
   (repeat (first|refine SW.seq ?_|refine SW.block ?_|refine SW.g1 be Zm (Zq F8 gJ) c2 ?_|refine SW.skip ?_|refine SW.exit ?_|refine SW.ret ?_|refine SW.an rfl ?_|refine SW.ah rfl ?_));exact End.mk S.h0 (h4:=⟨by rw[if_neg (by rw[z0];simp)];rw[if_neg (by rw[z1];simp)];rw[if_pos h0];rfl,rfl⟩) (h6:=h6)
 | 3,_,hz=>
  have z0:rb 0=false:=hz 0 (by omega);have z1:rb 1=false:=hz 1 (by omega);have z2:rb 2=false:=hz 2 (by omega);rcases(Bool.eq_false_or_eq_true (rb 3)).symm with h0|h0
  .rw[h0] at c3
   (repeat (first|refine SW.seq ?_|refine SW.block ?_|refine SW.g1 be Zm (Zq F9 gJ) c3 ?_|refine SW.skip ?_|refine SW.exit ?_|refine SW.ret ?_|refine SW.an rfl ?_|refine SW.ah rfl ?_));exact⟨⟨4,by omega,λ j hj=>by
    rcases Nat.lt_succ_iff_lt_or_eq.1 hj with hj|rfl
    .exact hz j hj
    .exact h0⟩,id,by dsimp only;omega,aH.same (by simp) (by simp[aL,List.lookup,SV.aC,SV.bS,SV.ok,me]) hH (λ x hx=>hdrop _ x hx)⟩
  .rw[h0] at c3
   (repeat (first|refine SW.seq ?_|refine SW.block ?_|refine SW.g1 be Zm (Zq F9 gJ) c3 ?_|refine SW.skip ?_|refine SW.exit ?_|refine SW.ret ?_|refine SW.an rfl ?_|refine SW.ah rfl ?_));exact End.mk S.h0 (h4:=⟨by rw[if_neg (by rw[z0];simp)];rw[if_neg (by rw[z1];simp)];rw[if_neg (by rw[z2];simp)];rw[if_pos h0];rfl,rfl⟩) (h6:=h6)
 | 4,_,hz=>
  have z0:rb 0=false:=hz 0 (by omega);have z1:rb 1=false:=hz 1 (by omega);have z2:rb 2=false:=hz 2 (by omega);have z3:rb 3=false:=hz 3 (by omega);rcases(Bool.eq_false_or_eq_true (rb 4)).symm with h0|h0
  .rw[h0] at c4
   (repeat (first|refine SW.seq ?_|refine SW.block ?_|refine SW.g1 be Zm (Zq F_ gJ) c4 ?_|refine SW.skip ?_|refine SW.exit ?_|refine SW.ret ?_|refine SW.an rfl ?_|refine SW.ah rfl ?_));exact⟨⟨5,by omega,λ j hj=>by
    rcases Nat.lt_succ_iff_lt_or_eq.1 hj with hj|rfl
    .exact hz j hj
    .exact h0⟩,id,by dsimp only;omega,aH.same (by simp) (by simp[aL,List.lookup,SV.aC,SV.bS,SV.ok,me]) hH (λ x hx=>hdrop _ x hx)⟩
  .rw[h0] at c4
   (repeat (first|refine SW.seq ?_|refine SW.block ?_|refine SW.g1 be Zm (Zq F_ gJ) c4 ?_|refine SW.skip ?_|refine SW.exit ?_|refine SW.ret ?_|refine SW.an rfl ?_|refine SW.ah rfl ?_));exact End.mk S.h0 (h4:=⟨by rw[if_neg (by rw[z0];simp)];rw[if_neg (by rw[z1];simp)];rw[if_neg (by rw[z2];simp)];rw[if_neg (by rw[z3];simp)];rw[if_pos h0];rfl,rfl⟩) (h6:=h6)
 | 5,_,hz=>
  have z0:rb 0=false:=hz 0 (by omega);have z1:rb 1=false:=hz 1 (by omega);have z2:rb 2=false:=hz 2 (by omega);have z3:rb 3=false:=hz 3 (by omega);have z4:rb 4=false:=hz 4 (by omega);rcases(Bool.eq_false_or_eq_true (rb 5)).symm with h0|h0
  .rw[h0] at c5
   (repeat (first|refine SW.seq ?_|refine SW.block ?_|refine SW.g1 be Zm (Zq Ga gJ) c5 ?_|refine SW.skip ?_|refine SW.exit ?_|refine SW.ret ?_|refine SW.an rfl ?_|refine SW.ah rfl ?_));exact⟨⟨6,by omega,λ j hj=>by
    rcases Nat.lt_succ_iff_lt_or_eq.1 hj with hj|rfl
    .exact hz j hj
    .exact h0⟩,id,by dsimp only;omega,aH.same (by simp) (by simp[aL,List.lookup,SV.aC,SV.bS,SV.ok,me]) hH (λ x hx=>hdrop _ x hx)⟩
  .rw[h0] at c5
   (repeat (first|refine SW.seq ?_|refine SW.block ?_|refine SW.g1 be Zm (Zq Ga gJ) c5 ?_|refine SW.skip ?_|refine SW.exit ?_|refine SW.ret ?_|refine SW.an rfl ?_|refine SW.ah rfl ?_));exact End.mk S.h0 (h4:=⟨by rw[if_neg (by rw[z0];simp)];rw[if_neg (by rw[z1];simp)];rw[if_neg (by rw[z2];simp)];rw[if_neg (by rw[z3];simp)];rw[if_neg (by rw[z4];simp)];rw[if_pos h0];rfl,rfl⟩) (h6:=h6)
 | 6,_,hz=>
  have z0:rb 0=false:=hz 0 (by omega);have z1:rb 1=false:=hz 1 (by omega);have z2:rb 2=false:=hz 2 (by omega);have z3:rb 3=false:=hz 3 (by omega);have z4:rb 4=false:=hz 4 (by omega);have z5:rb 5=false:=hz 5 (by omega);rcases(Bool.eq_false_or_eq_true (rb 6)).symm with h0|h0
  .rw[h0] at c6
   (repeat (first|refine SW.seq ?_|refine SW.block ?_|refine SW.g1 be Zm (Zq Gb gJ) c6 ?_|refine SW.skip ?_|refine SW.exit ?_|refine SW.ret ?_|refine SW.an rfl ?_|refine SW.ah rfl ?_));exact⟨⟨7,by omega,λ j hj=>by
    rcases Nat.lt_succ_iff_lt_or_eq.1 hj with hj|rfl
    .exact hz j hj
    .exact h0⟩,id,by dsimp only;omega,aH.same (by simp) (by simp[aL,List.lookup,SV.aC,SV.bS,SV.ok,me]) hH (λ x hx=>hdrop _ x hx)⟩
  .rw[h0] at c6
   (repeat (first|refine SW.seq ?_|refine SW.block ?_|refine SW.g1 be Zm (Zq Gb gJ) c6 ?_|refine SW.skip ?_|refine SW.exit ?_|refine SW.ret ?_|refine SW.an rfl ?_|refine SW.ah rfl ?_));exact End.mk S.h0 (h4:=⟨by rw[if_neg (by rw[z0];simp)];rw[if_neg (by rw[z1];simp)];rw[if_neg (by rw[z2];simp)];rw[if_neg (by rw[z3];simp)];rw[if_neg (by rw[z4];simp)];rw[if_neg (by rw[z5];simp)];rw[if_pos h0];rfl,rfl⟩) (h6:=h6)
 | 7,_,hz=>
  have z0:rb 0=false:=hz 0 (by omega);have z1:rb 1=false:=hz 1 (by omega);have z2:rb 2=false:=hz 2 (by omega);have z3:rb 3=false:=hz 3 (by omega);have z4:rb 4=false:=hz 4 (by omega);have z5:rb 5=false:=hz 5 (by omega);have z6:rb 6=false:=hz 6 (by omega);(repeat (first|refine SW.seq ?_|refine SW.block ?_|refine SW.g0 be Zm af ?_|refine SW.skip ?_|refine SW.exit ?_|refine SW.ret ?_|refine SW.an rfl ?_|refine SW.ah rfl ?_));exact End.mk S.h0 (h4:=⟨by rw[if_neg (by rw[z0];simp)];rw[if_neg (by rw[z1];simp)];rw[if_neg (by rw[z2];simp)];rw[if_neg (by rw[z3];simp)];rw[if_neg (by rw[z4];simp)];rw[if_neg (by rw[z5];simp)];rw[if_neg (by rw[z6];simp)];rfl,rfl⟩) (h6:=h6)
theorem I_ (S:Sh)(o:ag)(hk:o.kind<256)(ab:Bool)(hT:∀ k,aF Tryz.prog shape_Shape_target.f [.ptr 0 0,.agg o.cells] S.h0 k 0 (bl (S.tgt o ab)) S.h0)(n:Sn)(hn:n.ok)(k:Nat):
  aF Tryz.prog shape_Shape_Why.f [.ptr n.b 0,.agg o.cells] (S.hp n) k 0 (i64 (S.why o ab)) (S.hp n):=
 S.at_ (I9 S o hk ab hT) (λ ρ=>by simp[SV.aU,SV.aC,ag.aA]) (λ _=>rfl) n hn k
end
end
end Go.Proofs.YtaelhkkjgfobhaaGreat
