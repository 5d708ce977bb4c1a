/-
 Shapes: what a shape holds; which operation is before another one, carts, credentials.
-/
import Derived.Test.YtaelhkkjgfobhaaGreatRC
set_option linter.unusedSectionVars false
set_option linter.unusedVariables false
set_option linter.unusedSimpArgs false
namespace Go.Proofs.YtaelhkkjgfobhaaGreat
open Go.Sl Go.Proofs
section
def dv (d:Dt):SV:= .agg d.cells
theorem JB (L:MM Dt Dt)(a:Dt):fG (au Dt.cells dv L) (.agg (⟨0,0⟩:Dt).cells) (MM.idx L a)= .agg ((MM.get L a).getD ⟨0,0⟩).cells:=jd (vs:=dv) ⟨0,0⟩ L a
theorem JC (L:MM Dt Dt)(c:Nat)(a v:Dt):kA (au Dt.cells dv L) c (.agg a.cells) (.agg v.cells) (MM.idx L a)= .map (au Dt.cells dv (MM.put L c a v)) (MM.jy L c a):=jJ (vs:=dv) L c a v
theorem Dh (L:MM Dt ag)(c:Nat)(a:Dt)(v:ag):kA (au Dt.cells ov L) c (.agg a.cells) (.agg v.cells) (MM.idx L a)= .map (au Dt.cells ov (MM.put L c a v)) (MM.jy L c a):=jJ (vs:=ov) L c a v
theorem tj (ρ:Nat->Nat)(L:MM Dt Dt):(au Dt.cells dv L).map (λ e=>(e.1,e.2.1.aC ρ,e.2.2.aC ρ))=au Dt.cells dv L:=lD ρ L (λ a=>Dt.aq a ρ) (λ v=>by simp[dv,SV.aC,Dt.aq])
theorem pq (q:Nat->Bool)(L:MM Dt Dt):((au Dt.cells dv L).all λ e=>e.2.1.ok q && e.2.2.ok q)=true:=nQ q L (λ a=>Dt.ah a q) (λ v=>by simp[dv,SV.ok,Dt.ah])
structure Sh where
 ops:MM Dt ag
 co:Nat
 iL:MM Dt Int
 ca:Nat
 oS:MM Dt Dt
 cl:Nat
 tr:MM Dt Cr
 ct:Nat
 md:MM Dt ag
 cm:Nat
abbrev Sh.h0 (S:Sh):Hp:=[(0,.box 117 [.ptr 4 0,.mp 1,.mp 2,.mp 3]),(1,.map (au Dt.cells ov S.ops) S.co),(2,.map (au Dt.cells iv S.iL) S.ca),(3,.map (au Dt.cells dv S.oS) S.cl),
 (4,.box 166 [.mp 5,.mp 6]),(5,.map (au Dt.cells cv S.tr) S.ct),(6,.map (au Dt.cells ov S.md) S.cm)]
abbrev Sh.T (S:Sh):Tr:=⟨4,5,6,S.tr,S.ct,S.md,S.cm⟩
theorem Sh.Mo (S:Sh):S.T.sep:=⟨by show(5:Nat)≠4;decide,by show(6:Nat)≠4;decide,by show(5:Nat)≠6;decide⟩
theorem Sh.ok (S:Sh){k:Nat}(h:7<=k):S.h0.ok (λ n=>decide (n<k))=true:=by
 have a:=bG (λ n=>decide (n<k)) S.ops;have b:=bL (λ n=>decide (n<k)) S.iL;have c:=pq (λ n=>decide (n<k)) S.oS;have d:=kG (λ n=>decide (n<k)) S.tr;have e:=bG (λ n=>decide (n<k)) S.md;simp only[Hp.ok,List.all_cons,List.all_nil,Ob.ok,SV.ax,SV.ok,a,b,c,d,e,Bool.and_true,Bool.true_and,Bool.and_eq_true,decide_eq_true_eq];omega
def Sh.op (S:Sh)(d:Dt):ag:=(MM.get S.ops d).getD ag.zero
def Sh.cr (S:Sh)(d:Dt):Cr:=(MM.get S.tr d).getD Cr.zero
def Sh.uL (S:Sh)(d:Dt)(o:ag):Bool:=MM.has S.ops d && (S.op d).before o
def Sh.aK (S:Sh)(o:ag):Bool:=if o.kind=0 then decide (o.aK=o.dot) else MM.has S.ops o.aK && (decide ((S.op o.aK).kind=0) && (decide ((S.op o.aK).aK=(S.op o.aK).dot) && (S.op o.aK).before o))
def Sh.ze (S:Sh)(d:Dt)(o:ag):Bool:=MM.has S.tr d && (decide ((S.cr d).aK=o.aK) && S.uL d o)
def Sh.line (S:Sh)(d:Dt)(o:ag):Bool:=decide (0<(MM.get S.iL d).getD 0) && (decide ((S.op d).aK=o.aK) && S.uL d o)
def Sh.tu (S:Sh)(c:Cm)(o:ag):Bool:=S.line c.line o && (decide (c.jA=c.line) || (MM.has S.oS c.jA && (decide ((MM.get S.oS c.jA).getD ⟨0,0⟩=c.line) && S.uL c.jA o)))
section
attribute [local irreducible] SW RW aH SC aj ak
set_option maxHeartbeats 4000000 in
theorem JD (S:Sh)(d:Dt)(o:ag):SB Tryz.prog shape_Shape_before.f [.ptr 0 0,.agg d.cells,.agg o.cells] S.h0 7 0 λ r F=>r=bl (S.uL d o)/\F=S.h0:=by
 refine shape_Shape_before.enter (by simp[SV.ax,SV.ok]) (S.ok (Nat.le_refl 7)) (by simp) ?_;dsimp only[shape_Shape_before.s,Co.M,Co.J,Co.H,Co.F,Co.C,Co.B,Co.bH,Co.T,Co.K,Co.E,Co.x,Co.W,Co.U,Co.D,Co.A,Co.S];obtain⟨a,ha⟩:∃ a,(MM.get S.ops d).getD ag.zero=a:=⟨_,rfl⟩;have hb:=kO a o;refine SW.seq (SW.g0 dq Zm aa ?_);refine SW.seq ?_;rcases h:MM.has S.ops d with _|_
 .refine SW.g0 dq Zm (Zq h ha) ?_
  refine SW.seq (SW.g0 dq Zm aa ?_);refine SW.ret ?_;exact End.mk S.h0 (h4:=⟨by simp[fB,Sh.uL,h],rfl⟩) (h6:=S.ok (Nat.le_refl 7))
 .refine SW.g0 dq Zm (Zq h ha) ?_
  refine SW.seq (SW.g1 dq Zm aa hb ?_);refine SW.ret ?_;exact End.mk S.h0 (h4:=⟨by simp[fB,Sh.uL,h,Sh.op,ha],rfl⟩) (h6:=S.ok (Nat.le_refl 7))
end
end
section
structure Sn where
 b:Nat
 o:Nat
 a:Nat
 l:Nat
 t:Nat
 x:Nat
 y:Nat
abbrev Sn.nl (n:Sn):List Nat:=[n.b,n.o,n.a,n.l,n.t,n.x,n.y]
abbrev Sn.ok (n:Sn):Prop:=n.nl.Nodup
def Sh.hp (S:Sh)(n:Sn):Hp:=[(n.b,.box 117 [.ptr n.t 0,.mp n.o,.mp n.a,.mp n.l]),(n.o,.map (au Dt.cells ov S.ops) S.co),(n.a,.map (au Dt.cells iv S.iL) S.ca),(n.l,.map (au Dt.cells dv S.oS) S.cl),
 (n.t,.box 166 [.mp n.x,.mp n.y]),(n.x,.map (au Dt.cells cv S.tr) S.ct),(n.y,.map (au Dt.cells ov S.md) S.cm)]
theorem Sh.Gw (S:Sh)(n:Sn)(k:Nat):Hp.aC (eu n.nl k) S.h0=S.hp n:=by
 simp only[Hp.aC,List.map_cons,List.map_nil,Ob.aC,SV.aN,SV.aC,j5,cG,tj,fc,Sh.hp];rfl
theorem Sh.Lg (S:Sh):∀ i,i<7->lk S.h0 i≠none:=λ i hi=>by
 rcases(show i=0\/i=1\/i=2\/i=3\/i=4\/i=5\/i=6 by omega) with rfl|rfl|rfl|rfl|rfl|rfl|rfl<;>simp[af]
theorem Sh.at_ (S:Sh){f:FuncId}{args:List SV}{r:SV}(h:SB Tryz.prog f (.ptr 0 0::args) S.h0 7 0 λ x F=>x=r/\F=S.h0)(ha:∀ ρ,SV.aN ρ args=args)(hr:∀ ρ,r.aC ρ=r)(n:Sn)(hn:n.ok)(k:Nat):
  aH Tryz.prog f (.ptr n.b 0::args) (S.hp n) k 0 r (S.hp n):=by
 have:=SB.lR n.nl h hn S.Lg k;rw[S.Gw,hr] at this;simp only[SV.aN,SV.aC,ha] at this;exact this
abbrev n0:Sn:=⟨0,1,2,3,4,5,6⟩
theorem rY:n0.ok:=by decide
theorem JE (S:Sh)(d:Dt)(o:ag)(n:Sn)(hn:n.ok)(k:Nat):aH Tryz.prog shape_Shape_before.f [.ptr n.b 0,.agg d.cells,.agg o.cells] (S.hp n) k 0 (bl (S.uL d o)) (S.hp n):=S.at_ (JD S d o) (λ ρ=>by simp[SV.aN,SV.aC,Dt.aq,ag.aq]) (λ _=>rfl) n hn k
theorem B0 (S:Sh)(d:Dt)(o:ag)(k:Nat):aH Tryz.prog shape_Shape_before.f [.ptr 0 0,.agg d.cells,.agg o.cells] S.h0 k 0 (bl (S.uL d o)) S.h0:=JE S d o n0 rY k
abbrev Sh.h4 (S:Sh):Hp:=[(4,.box 166 [.mp 5,.mp 6]),(5,.map (au Dt.cells cv S.tr) S.ct),(6,.map (au Dt.cells ov S.md) S.cm)]
theorem Mp (S:Sh)(d:Dt)(k:Nat):aH Tryz.prog tree_Tree_Get.f [.ptr 4 0,.agg d.cells] S.h4 k 3 (.dL [.agg (S.cr d).cells,i64 (if MM.has S.tr d then 0 else 7)]) S.h4:=get_at S.Mo d k
section
attribute [local irreducible] SW RW aH SC aj ak
set_option maxHeartbeats 4000000 in
theorem Gx (S:Sh)(o:ag):SB Tryz.prog shape_Shape_cart.f [.ptr 0 0,.agg o.cells] S.h0 7 0 λ r F=>r=bl (S.aK o)/\F=S.h0:=by
 refine shape_Shape_cart.enter (by simp[SV.ax,SV.ok]) (S.ok (Nat.le_refl 7)) (by simp) ?_;dsimp only[shape_Shape_cart.s,Co.M,Co.J,Co.H,Co.F,Co.C,Co.B,Co.b8,Co.bH,Co.T,Co.K,Co.E,Co.x,Co.W,Co.U,Co.D,Co.A,Co.S];obtain⟨g,hg⟩:∃ g,(MM.get S.ops o.aK).getD ag.zero=g:=⟨_,rfl⟩;have hS:S.aK o=if o.kind=0 then decide (o.aK=o.dot) else MM.has S.ops o.aK && (decide (g.kind=0) && (decide (g.aK=g.dot) && g.before o)):=by unfold Sh.aK Sh.op;rw[hg]
 have hb:=kO g o;refine SW.seq (SW.g0 eg Zm aa ?_);refine SW.seq (SW.g0 eg Zm hg ?_);refine SW.seq (SW.seq ?_)
 by_cases hk:o.kind=0
 .have k1:(((o.kind:Nat):Int) == 0)=true:=by rw[hk];rfl
  refine SW.g0 eg Zm k1 ?_;refine SW.ai rfl (SW.seq ?_);rw[if_pos hk] at hS;rcases h:decide (o.aK=o.dot) with _|_
  .refine SW.g0 eg Zm h ?_
   refine SW.ret ?_;exact End.mk S.h0 (h4:=⟨by rw[hS,h];rfl,rfl⟩) (h6:=S.ok (Nat.le_refl 7))
  .refine SW.g0 eg Zm h ?_
   refine SW.ret ?_;exact End.mk S.h0 (h4:=⟨by rw[hS,h];rfl,rfl⟩) (h6:=S.ok (Nat.le_refl 7))
 have k1:(((o.kind:Nat):Int) == 0)=false:=by simp;omega
 rw[if_neg hk] at hS;refine SW.g0 eg Zm k1 ?_;refine SW.an rfl (SW.skip (SW.seq ?_));rcases h1:MM.has S.ops o.aK with _|_
 .refine SW.g0 eg Zm h1 ?_
  refine SW.ret ?_;exact End.mk S.h0 (h4:=⟨by rw[hS,h1];rfl,rfl⟩) (h6:=S.ok (Nat.le_refl 7))
 rcases h2:(((g.kind:Nat):Int) == 0) with _|_
 .have e2:decide (g.kind=0)=false:=by simp at h2 ⊢;omega
  refine SW.g0 eg Zm (Zq h1 h2) ?_;refine SW.ret ?_;exact End.mk S.h0 (h4:=⟨by rw[hS,h1,e2];rfl,rfl⟩) (h6:=S.ok (Nat.le_refl 7))
 have e2:decide (g.kind=0)=true:=by simp at h2 ⊢;omega
 rcases h3:decide (g.aK=g.dot) with _|_
 .refine SW.g0 eg Zm (Zq h1 (Zq h2 h3)) ?_
  refine SW.ret ?_;exact End.mk S.h0 (h4:=⟨by rw[hS,h1,e2,h3];rfl,rfl⟩) (h6:=S.ok (Nat.le_refl 7))
 .refine SW.g1 eg Zm (Zq h1 (Zq h2 h3)) hb ?_
  refine SW.ret ?_;exact End.mk S.h0 (h4:=⟨by rw[hS,h1,e2,h3];simp[fB],rfl⟩) (h6:=S.ok (Nat.le_refl 7))
set_option maxHeartbeats 4000000 in
theorem Gy (S:Sh)(d:Dt)(o:ag):SB Tryz.prog shape_Shape_cred.f [.ptr 0 0,.agg d.cells,.agg o.cells] S.h0 7 0 λ r F=>r= .dL [.agg (S.cr d).cells,bl (S.ze d o)]/\F=S.h0:=by
 refine shape_Shape_cred.enter (by simp[SV.ax,SV.ok]) (S.ok (Nat.le_refl 7)) (by simp) ?_;dsimp only[shape_Shape_cred.s,Co.M,Co.G,Co.J,Co.H,Co.F,Co.C,Co.B,Co.b8,Co.aB,Co.bE,Co.i6,Co.T,Co.K,Co.E,Co.Q,Co.x,Co.W,Co.Y,Co.U,Co.D,Co.A,Co.S];have hc:=Mp S d;have hb:=B0 S d o;obtain⟨c,hcc⟩:∃ c,S.cr d=c:=⟨_,rfl⟩;have hS:S.ze d o=(MM.has S.tr d && (decide (c.aK=o.aK) && S.uL d o)):=by unfold Sh.ze;rw[hcc]
 rw[hcc] at hc ⊢;refine SW.seq (SW.g0 fi Zm aa ?_);refine SW.seq ?_;rcases h1:MM.has S.tr d with _|_
 .simp only[h1,Bool.false_eq_true,if_false] at hc
  refine SW.g1 fi Zm aa hc ?_;refine SW.seq (SW.g0 fi Zm aa ?_);refine SW.ret ?_;exact End.mk S.h0 (h4:=⟨by rw[hS,h1];rfl,rfl⟩) (h6:=S.ok (Nat.le_refl 7))
 simp only[h1,if_true] at hc;refine SW.g1 fi Zm aa hc ?_;refine SW.seq ?_;rcases h2:decide (c.aK=o.aK) with _|_
 .refine SW.g0 fi Zm h2 ?_
  refine SW.ret ?_;exact End.mk S.h0 (h4:=⟨by rw[hS,h1,h2];rfl,rfl⟩) (h6:=S.ok (Nat.le_refl 7))
 .refine SW.g1 fi Zm h2 hb ?_
  refine SW.ret ?_;exact End.mk S.h0 (h4:=⟨by rw[hS,h1,h2];simp[fB],rfl⟩) (h6:=S.ok (Nat.le_refl 7))
end
end
section
def _root_.Go.Sl.Cm.sv (c:Cm):List SV:=c.line.cells++c.jA.cells
section
variable (c:Cm)
theorem _root_.Go.Sl.Cm.s0:List.take 2 c.sv=c.line.cells:=rfl
theorem _root_.Go.Sl.Cm.s2:List.take 2 (List.drop 2 c.sv)=c.jA.cells:=rfl
theorem _root_.Go.Sl.Cm.CK:c.sv.length=4:=rfl
theorem _root_.Go.Sl.Cm.Lh:c.sv.all SV.dX=true:=rfl
@[simp] theorem _root_.Go.Sl.Cm.QC (q:Nat->Bool):SV.ax q c.sv=true:=rfl
@[simp] theorem _root_.Go.Sl.Cm.Ou (ρ:Nat->Nat):SV.aN ρ c.sv=c.sv:=rfl
theorem _root_.Go.Sl.Cm.Ft (a b:Dt):a.cells++b.cells=(⟨a,b⟩:Cm).sv:=rfl
end
def kg (k:Nat):Nat:=([0,1,1,2,2,2,4,4,2]:List Nat).getD k 0
section
attribute [local irreducible] SW RW aH SC aj ak Cm.sv
set_option maxHeartbeats 4000000 in
theorem Gz (S:Sh)(d:Dt)(o:ag):SB Tryz.prog shape_Shape_line.f [.ptr 0 0,.agg d.cells,.agg o.cells] S.h0 7 0 λ r F=>r=bl (S.line d o)/\F=S.h0:=by
 refine shape_Shape_line.enter (by simp[SV.ax,SV.ok]) (S.ok (Nat.le_refl 7)) (by simp) ?_;dsimp only[shape_Shape_line.s,Co.M,Co.G,Co.J,Co.H,Co.F,Co.C,Co.B,Co.i6,Co.bH,Co.T,Co.K,Co.x,Co.Y,Co.U,Co.D,Co.A,Co.S];obtain⟨g,hg⟩:∃ g,(MM.get S.ops d).getD ag.zero=g:=⟨_,rfl⟩;have hS:S.line d o=(decide (0<(MM.get S.iL d).getD 0) && (decide (g.aK=o.aK) && S.uL d o)):=by unfold Sh.line Sh.op;rw[hg]
 have hb:=B0 S d o;refine SW.seq (SW.g0 jp Zm aa ?_);refine SW.seq ?_;rcases h1:decide (0<(MM.get S.iL d).getD 0) with _|_
 .have g1:decide ((MM.get S.iL d).getD 0>0)=false:=h1
  refine SW.g0 jp Zm g1 ?_;refine SW.ret ?_;exact End.mk S.h0 (h4:=⟨by rw[hS,h1];rfl,rfl⟩) (h6:=S.ok (Nat.le_refl 7))
 have g1:decide ((MM.get S.iL d).getD 0>0)=true:=h1;rcases h2:decide (g.aK=o.aK) with _|_
 .refine SW.g0 jp Zm (Zq g1 (Zq hg h2)) ?_
  refine SW.ret ?_;exact End.mk S.h0 (h4:=⟨by rw[hS,h1,h2];rfl,rfl⟩) (h6:=S.ok (Nat.le_refl 7))
 .refine SW.g1 jp Zm (Zq g1 (Zq hg h2)) hb ?_
  refine SW.ret ?_;exact End.mk S.h0 (h4:=⟨by rw[hS,h1,h2];simp[fB],rfl⟩) (h6:=S.ok (Nat.le_refl 7))
theorem Di (S:Sh)(d:Dt)(o:ag)(k:Nat):aH Tryz.prog shape_Shape_line.f [.ptr 0 0,.agg d.cells,.agg o.cells] S.h0 k 0 (bl (S.line d o)) S.h0:=
 S.at_ (Gz S d o) (λ ρ=>by simp[SV.aN,SV.aC,Dt.aq,ag.aq]) (λ _=>rfl) n0 rY k
set_option maxHeartbeats 4000000 in
theorem JF (S:Sh)(c:Cm)(o:ag):SB Tryz.prog shape_Shape_claim.f [.ptr 0 0,.agg c.sv,.agg o.cells] S.h0 7 0 λ r F=>r=bl (S.tu c o)/\F=S.h0:=by
 refine shape_Shape_claim.enter (by simp[SV.ax,SV.ok]) (S.ok (Nat.le_refl 7)) (by simp) ?_;dsimp only[shape_Shape_claim.s,Co.M,Co.G,Co.J,Co.H,Co.F,Co.C,Co.B,Co.b8,Co.aB,Co.T,Co.K,Co.E,Co.R,Co.x,Co.W,Co.U,Co.D,Co.A,Co.S];have c0:=c.s0;have c2:=c.s2;have cl:=c.CK;have c1:=c.Lh;obtain⟨v,hv⟩:∃ v,(MM.get S.oS c.jA).getD ⟨0,0⟩=v:=⟨_,rfl⟩;have hS:S.tu c o=(S.line c.line o && (decide (c.jA=c.line) || (MM.has S.oS c.jA && (decide (v=c.line) && S.uL c.jA o)))):=by unfold Sh.tu;rw[hv]
 have hl:=Di S c.line o;have hb:=B0 S c.jA o;have lkd:=JB S.oS c.jA;refine SW.seq (SW.g0 dq Zm c1 ?_);refine SW.seq (SW.g0 dq Zm (Zq c0 (Zq c2 (Zq cl (Zq lkd hv)))) ?_);refine SW.seq ?_;rcases h1:S.line c.line o with _|_
 .rw[h1] at hl
  refine SW.g2 dq Zm (Zq c0 (Zq c2 cl)) hl hb ?_;refine SW.ret ?_;exact End.mk S.h0 (h4:=⟨by rw[hS,h1];rfl,rfl⟩) (h6:=S.ok (Nat.le_refl 7))
 rw[h1] at hl;rcases h2:decide (c.jA=c.line) with _|_
 rotate_left
 .refine SW.g2 dq Zm (Zq c0 (Zq c2 (Zq cl h2))) hl hb ?_
  refine SW.ret ?_;exact End.mk S.h0 (h4:=⟨by rw[hS,h1,h2];rfl,rfl⟩) (h6:=S.ok (Nat.le_refl 7))
 rcases h3:MM.has S.oS c.jA with _|_
 .refine SW.g2 dq Zm (Zq c0 (Zq c2 (Zq cl (Zq h2 h3)))) hl hb ?_
  refine SW.ret ?_;exact End.mk S.h0 (h4:=⟨by rw[hS,h1,h2,h3];rfl,rfl⟩) (h6:=S.ok (Nat.le_refl 7))
 rcases h4:decide (v=c.line) with _|_
 .refine SW.g2 dq Zm (Zq c0 (Zq c2 (Zq cl (Zq h2 (Zq h3 h4))))) hl hb ?_
  refine SW.ret ?_;exact End.mk S.h0 (h4:=⟨by rw[hS,h1,h2,h3,h4];rfl,rfl⟩) (h6:=S.ok (Nat.le_refl 7))
 .refine SW.g2 dq Zm (Zq c0 (Zq c2 (Zq cl (Zq h2 (Zq h3 h4))))) hl hb ?_
  refine SW.ret ?_;exact End.mk S.h0 (h4:=⟨by rw[hS,h1,h2,h3,h4];simp[fB],rfl⟩) (h6:=S.ok (Nat.le_refl 7))
theorem GA (S:Sh)(c:Cm)(o:ag)(k:Nat):aH Tryz.prog shape_Shape_claim.f [.ptr 0 0,.agg c.sv,.agg o.cells] S.h0 k 0 (bl (S.tu c o)) S.h0:=
 S.at_ (JF S c o) (λ ρ=>by simp[SV.aN,SV.aC,ag.aq]) (λ _=>rfl) n0 rY k
theorem GB (k:Nat)(hk:k<256):Go.Sl.Pure Tryz.prog shape_Needs.f [u8 k] (.d (.int .u8 (kg k))):=by
 refine shape_Needs.enter (by first|rfl|simp[SV.ok,SV.ax]) (by first|rfl|simp[Hp.ok,Ob.ok,SV.ok,SV.ax,ay.ah]) (by simp) ?_;dsimp only[shape_Needs.s,Co.M,Co.J,Co.F,Co.b8,Co.T,Co.W,Co.Y,Co.S];refine SW.seq (SW.g0 ip Zm aa ?_);refine SW.seq ?_;have hb:b_ (b_ (b_ (b_ (b_ (b_ (b_ (b_ [SV.d (.int .u8 0),.d (.int .u8 0),.d (.int .u8 0),.d (.int .u8 0),.d (.int .u8 0),.d (.int .u8 0),.d (.int .u8 0),.d (.int .u8 0),.d (.int .u8 0)] 1 [.d (.int .u8 1)]) 2 [.d (.int .u8 1)]) 3 [.d (.int .u8 2)]) 4 [.d (.int .u8 2)]) 5 [.d (.int .u8 2)]) 6 [.d (.int .u8 4)]) 7 [.d (.int .u8 4)]) 8 [.d (.int .u8 2)]=[.d (.int .u8 0),.d (.int .u8 1),.d (.int .u8 1),.d (.int .u8 2),.d (.int .u8 2),.d (.int .u8 2),.d (.int .u8 4),.d (.int .u8 4),.d (.int .u8 2)]:=rfl;have IN:∀ z:List SV,z.length=9->b_ z 0 [SV.d (.int .u8 0),.d (.int .u8 1),.d (.int .u8 1),.d (.int .u8 2),.d (.int .u8 2),.d (.int .u8 2),.d (.int .u8 4),.d (.int .u8 4),.d (.int .u8 2)]=[.d (.int .u8 0),.d (.int .u8 1),.d (.int .u8 1),.d (.int .u8 2),.d (.int .u8 2),.d (.int .u8 2),.d (.int .u8 4),.d (.int .u8 4),.d (.int .u8 2)]:=λ z hz=>by
  match z,hz with
  | [_,_,_,_,_,_,_,_,_],_=>rfl
 have hb3:=IN [SV.d (.int .u8 0),.d (.int .u8 0),.d (.int .u8 0),.d (.int .u8 0),.d (.int .u8 0),.d (.int .u8 0),.d (.int .u8 0),.d (.int .u8 0),.d (.int .u8 0)] rfl;refine SW.g0 ip Zm (Zq hb hb3) ?_;have e8:IntKind.i64.wrap (k:Int)=(k:Int):=wrap_i64 _ (by omega);refine SW.seq (SW.seq ?_)
 by_cases h:k<9
 .have h1:decide ((k:Int)>=9)=false:=by simp only[decide_eq_false_iff_not];omega
  refine SW.g0 ip Zm (Zq e8 h1) ?_;refine SW.an rfl (SW.skip (SW.seq ?_));have hg:([SV.d (.int .u8 0),.d (.int .u8 1),.d (.int .u8 1),.d (.int .u8 2),.d (.int .u8 2),.d (.int .u8 2),.d (.int .u8 4),.d (.int .u8 4),.d (.int .u8 2)]:List SV)[k]? =some (.d (.int .u8 (kg k))):=by
   match k,h with
   | 0,_|1,_|2,_|3,_|4,_|5,_|6,_|7,_|8,_=>rfl
  refine SW.g0 ip Zm hg ?_;refine SW.ret ?_;exact End.mk [] (h4:=⟨rfl,rfl⟩)
 .have h1:decide ((k:Int)>=9)=true:=by simp only[decide_eq_true_eq];omega
  have e:kg k=0:=by unfold kg;simp[List.getD];rw[List.getElem?_eq_none (by simp;omega)];rfl
  rw[e];refine SW.g0 ip Zm (Zq e8 h1) ?_;refine SW.ai rfl (SW.seq (SW.g0 ip Zm aa ?_));refine SW.ret ?_;exact End.mk [] (h4:=⟨rfl,rfl⟩)
theorem GC (k:Nat)(hk:k<256)(j:Nat):aH Tryz.prog shape_Needs.f [u8 k] [] j 0 (.d (.int .u8 (kg k))) []:=(GB k hk).sc rfl j
end
end
section
theorem uQ {l:List Cm}{i:Nat}{x:Cm}(h:l[i]? =some x):List.take 4 (List.drop (i*4) (List.map SV.d (l.flatMap Cm.ds)))=x.sv:=by
 rw[<- List.map_drop,<- List.map_take,jG Cm.ds 4 (λ _=>rfl) l i x h];rfl
theorem yf {l:List Cm}{i:Nat}{x:Cm}(h:l[i]? =some x):(i*4+4<=(List.map SV.d (l.flatMap Cm.ds)).length)=True:=eq_true (by
 rw[List.length_map,yW];have:=(List.getElem?_eq_some_iff.1 h).1;omega)
def zf (p:Cm->Bool)(l:List Cm):Int:=match l.findIdx? p with
 | some i=>i
 | none=> -1
theorem GD {p:Cm->Bool}:∀ {l:List Cm} {i:Nat} {x:Cm},(∀ y,y∈l.take i->p y=false)->l[i]? =some x->p x=true->zf p l=i:=by
 intro l i x h1 h2 h3;have:l.findIdx? p=some i:=by
  rw[List.findIdx?_eq_some_iff_getElem];obtain⟨hi,e⟩:=List.getElem?_eq_some_iff.1 h2;refine⟨hi,by rw[e];exact h3,λ j hj=> ?_⟩;have:=h1 l[j] (List.mem_take_iff_getElem.2 ⟨j,by omega,rfl⟩);simp[this]
 unfold zf;rw[this]
theorem Ed {p:Cm->Bool}{l:List Cm}(h:∀ y,y∈l->p y=false):zf p l= -1:=by
 have:l.findIdx? p=none:=by rw[List.findIdx?_eq_none_iff];exact h
 unfold zf;rw[this]
theorem GF (p:Cm->Bool)(l:List Cm):decide (zf p l>=0)=l.any p:=by
 unfold zf;cases h:l.findIdx? p with
 | none=>
  have h1:=List.findIdx?_eq_none_iff.1 h;have:l.any p=false:=by rw[List.any_eq_false];intro x hx;rw[h1 x hx];simp
  rw[this];rfl
 | some i=>
  obtain⟨hi,h2,_⟩:=List.findIdx?_eq_some_iff_getElem.1 h;have:l.any p=true:=by rw[List.any_eq_true];exact⟨_,List.getElem_mem hi,h2⟩
  rw[this];simp
abbrev Sh.ht (S:Sh)(o:ag):Hp:=(8,.box 43 o.cells)::(7,.box 29 [.ptr 0 0])::S.h0
theorem Sh.jC (S:Sh)(o:ag){k:Nat}(h:9<=k):(S.ht o).ok (λ n=>decide (n<k))=true:=by
 have:=S.ok (k:=k) (by omega);simp only[Sh.ht,Hp.ok,List.all_cons,Ob.ok,ag.ah,SV.ax,SV.ok,Bool.and_true,Bool.and_eq_true,decide_eq_true_eq] at this ⊢;exact⟨by omega,⟨by omega,by omega⟩,this⟩
theorem Sh.Mq (S:Sh)(o:ag)(k:Nat):Hp.aC (eu [0,1,2,3,4,5,6,7,8] k) (S.ht o)=S.ht o:=by
 simp only[Hp.aC,List.map_cons,List.map_nil,Ob.aC,SV.aN,SV.aC,j5,cG,tj,fc,ag.aq];rfl
theorem Sh.Ov (S:Sh)(o:ag):∀ i,i<9->lk (S.ht o) i≠none:=λ i hi=>by
 rcases(show i=0\/i=1\/i=2\/i=3\/i=4\/i=5\/i=6\/i=7\/i=8 by omega) with rfl|rfl|rfl|rfl|rfl|rfl|rfl|rfl|rfl<;>simp[af]
theorem Sh.NB (S:Sh)(o:ag){f:FuncId}{args:List SV}{r:SV}(h:SB Tryz.prog f args (S.ht o) 9 0 λ x F=>x=r/\F=S.ht o)(k:Nat)(ha:SV.aN (eu [0,1,2,3,4,5,6,7,8] k) args=args)(hr:∀ ρ,r.aC ρ=r):
  aH Tryz.prog f args (S.ht o) k 0 r (S.ht o):=by
 have:=SB.lR [0,1,2,3,4,5,6,7,8] h (by decide) (S.Ov o) k;rw[S.Mq,ha,hr] at this;exact this
def Sh.tgt (S:Sh)(o:ag)(ab:Bool):Bool:=
 if o.kind=2 then S.ze o.at_ o && ab else if o.kind=4\/o.kind=5 then S.line o.at_ o else if o.kind=6\/o.kind=7 then S.tu ⟨o.at_,o.jA⟩ o else if o.kind=8 then !(o.cl.any λ c=> !S.tu c o) else true
section
attribute [local irreducible] SW RW aH SC aj ak Cm.sv
set_option maxHeartbeats 4000000 in
theorem JG (S:Sh)(o:ag)(c:Cm):SB Tryz.prog shape_Shape_target_1.f [.agg c.sv,.ptr 7 0,.ptr 8 0] (S.ht o) 9 0 λ r F=>r=bl (!S.tu c o)/\F=S.ht o:=by
 refine shape_Shape_target_1.enter (by simp[SV.ax,SV.ok]) (S.jC o (Nat.le_refl 9)) (by simp) ?_;dsimp only[shape_Shape_target_1.s,Co.M,Co.J,Co.F,Co.B,Co.T,Co.K,Co.R,Co.x,Co.O,Co.S];have c1:=c.Lh;have cl:=c.CK;have c4:List.take 4 c.sv=c.sv:=by rw[<- cl];exact List.take_length
 have hc:=GA S c o;refine SW.seq (SW.g0 ci Zm c1 ?_);refine SW.seq ?_;rcases h:S.tu c o with _|_<;>rw[h] at hc
 .refine SW.g1 ci Zm (Zq cl c4) hc ?_
  refine SW.ret ?_;exact End.mk (S.ht o) (h4:=⟨rfl,rfl⟩) (h6:=S.jC o (Nat.le_refl 9))
 .refine SW.g1 ci Zm (Zq cl c4) hc ?_
  refine SW.ret ?_;exact End.mk (S.ht o) (h4:=⟨rfl,rfl⟩) (h6:=S.jC o (Nat.le_refl 9))
theorem JH (S:Sh)(o:ag)(c:Cm)(k:Nat):aH Tryz.prog shape_Shape_target_1.f [.agg c.sv,.ptr 7 0,.ptr 8 0] (S.ht o) k 0 (bl (!S.tu c o)) (S.ht o):=
 S.NB o (JG S o c) k (by simp only[SV.aN,SV.aC,Cm.Ou];rfl) (λ _=>rfl)
set_option maxHeartbeats 4000000 in
theorem JI (S:Sh)(o:ag)(l:List Cm)(hl:l.length<=9223372036854775807):SB Tryz.prog slices_IndexFunc_Lapi_Claim_api_Claim.f [.d (.sl l.length (l.flatMap Cm.ds)),.fn (.func shape_Shape_target_1.f) [] [.ptr 7 0,.ptr 8 0]] (S.ht o) 9 0 λ r F=>r= .d (.int .i64 (zf (λ c=> !S.tu c o) l))/\F=S.ht o:=by
 refine slices_IndexFunc_Lapi_Claim_api_Claim.enter (by simp[SV.ax,SV.ok]) (S.jC o (Nat.le_refl 9)) (by simp) ?_;dsimp only[slices_IndexFunc_Lapi_Claim_api_Claim.s,Co.M,Co.J,Co.F,Co.Z,Co.K,Co.L,Co.Y,Co.V,Co.I,Co.S];refine SW.seq (SW.g0 cJ Zm aa ?_);refine SW.seq (SW.seq (SW.g0 cJ Zm aa ?_));have nd:((S.ht o).map (·.1)).Nodup:=by simp
 refine SW.block (SW.loop (α:={i:Nat // i<=l.length/\∀ y,y∈l.take i->(!S.tu y o)=false}) (λ i=>⟨[(8,i64 i.1),(7,i64 l.length),(0,.d (.sl l.length (l.flatMap Cm.ds))),(1,.fn (.func shape_Shape_target_1.f) [] [.ptr 7 0,.ptr 8 0]),(4,.d (.int .i64 0))],S.ht o,9⟩) (λ i=>l.length - i.1) ⟨0,by omega,by simp⟩ id ?_ ?_)
 .exact aG.same (by simp) (by simp[aJ,List.lookup,SV.aC,SV.aN,SV.ok,SV.ax]) (S.jC o (Nat.le_refl 9)) (aI nd)
 rintro⟨i,hi,hall⟩;dsimp only
 by_cases h:i<l.length
 .have h1:decide ((i:Int)<l.length)=true:=by simp only[decide_eq_true_eq];omega
  obtain⟨x,hx⟩:=aX h;have e2:IntKind.i64.wrap ((i:Int)+1)=((i+1:Nat):Int):=wrap_i64 _ (by omega);have hc:=JH S o x;refine SW.seq (SW.g0 cJ Zm h1 ?_);refine SW.seq (SW.ai rfl (SW.skip (SW.seq (SW.block (SW.seq (SW.g0 cJ Zm aa ?_))))));refine SW.seq ?_;rcases h2:S.tu x o with _|_<;>rw[h2] at hc
  .refine SW.g1 cJ Zm (Zq (uQ hx) (yf hx)) hc ?_
   refine SW.ai rfl (SW.seq (SW.g0 cJ Zm aa ?_));refine SW.ret ?_;exact End.mk (S.ht o) (h4:=⟨by rw[GD hall hx (by rw[h2];rfl)];rfl,rfl⟩) (h6:=S.jC o (Nat.le_refl 9))
  ·
   refine SW.g1 cJ Zm (Zq (uQ hx) (yf hx)) hc ?_;refine SW.an rfl (SW.skip (SW.g0 cJ Zm e2 ?_));exact⟨⟨i+1,by omega,λ y hy=>by rw[dY hx,List.mem_append,List.mem_singleton] at hy;exact hy.elim (hall y) λ e=>by rw[e,h2];rfl⟩,id,by simp;omega,aG.same (by simp) (by simp[aJ,List.lookup,SV.aC,SV.aN,SV.ok,SV.ax]) (S.jC o (Nat.le_refl 9)) (aI nd)⟩
 .have h1:decide ((i:Int)<l.length)=false:=by simp only[decide_eq_false_iff_not];omega
  have hi2:i=l.length:=by omega
  subst hi2;rw[List.take_length] at hall;refine SW.seq (SW.g0 cJ Zm h1 ?_);refine SW.seq (SW.an rfl (SW.exit ?_));refine(?_:Sl.SW _ _ _ _ _ _);refine SW.seq (SW.g0 cJ Zm aa ?_);refine SW.ret ?_;exact End.mk (S.ht o) (h4:=⟨by rw[Ed hall];rfl,rfl⟩) (h6:=S.jC o (Nat.le_refl 9))
end
end
section
section
attribute [local irreducible] SW RW aH SC aj ak Cm.sv
theorem JJ (S:Sh)(o:ag)(l:List Cm)(hl:l.length<=9223372036854775807)(k:Nat):aH Tryz.prog slices_IndexFunc_Lapi_Claim_api_Claim.f [.d (.sl l.length (l.flatMap Cm.ds)),.fn (.func 175) [] [.ptr 7 0,.ptr 8 0]] (S.ht o) k 0 (.d (.int .i64 (zf (λ c=> !S.tu c o) l))) (S.ht o):=
 S.NB o (JI S o l hl) k rfl (λ _=>rfl)
set_option maxHeartbeats 4000000 in
theorem GG (S:Sh)(o:ag)(l:List Cm)(hl:l.length<=9223372036854775807):SB Tryz.prog slices_ContainsFunc_Lapi_Claim_api_Claim.f [.d (.sl l.length (l.flatMap Cm.ds)),.fn (.func 175) [] [.ptr 7 0,.ptr 8 0]] (S.ht o) 9 0 λ r F=>r=bl (l.any λ c=> !S.tu c o)/\F=S.ht o:=by
 refine slices_ContainsFunc_Lapi_Claim_api_Claim.enter (by simp[SV.ax,SV.ok]) (S.jC o (Nat.le_refl 9)) (by simp) ?_;dsimp only[slices_ContainsFunc_Lapi_Claim_api_Claim.s,Co.M,Co.J,Co.F,Co.B,Co.Q,Co.Y,Co.S];have hc:=JJ S o l hl;have ha:=GF (λ c=> !S.tu c o) l;obtain⟨z,hz⟩:∃ z,zf (λ c=> !S.tu c o) l=z:=⟨_,rfl⟩;obtain⟨b,hb⟩:∃ b,(l.any λ c=> !S.tu c o)=b:=⟨_,rfl⟩;rw[hz,hb] at ha;rw[hz] at hc;rw[hb];refine SW.seq (SW.g0 [0,1,4] Zm aa ?_);refine SW.seq (SW.g1 [0,1,4] Zm ha hc ?_);refine SW.ret ?_;exact End.mk (S.ht o) (h4:=⟨rfl,rfl⟩) (h6:=S.jC o (Nat.le_refl 9))
theorem GH (S:Sh)(o:ag)(l:List Cm)(hl:l.length<=9223372036854775807)(k:Nat):aH Tryz.prog slices_ContainsFunc_Lapi_Claim_api_Claim.f [.d (.sl l.length (l.flatMap Cm.ds)),.fn (.func 175) [] [.ptr 7 0,.ptr 8 0]] (S.ht o) k 0 (bl (l.any λ c=> !S.tu c o)) (S.ht o):=
 S.NB o (GG S o l hl) k rfl (λ _=>rfl)
theorem Dj (S:Sh)(d:Dt)(o:ag)(k:Nat):aH Tryz.prog shape_Shape_cred.f [.ptr 0 0,.agg d.cells,.agg o.cells] S.h0 k 0 (.dL [.agg (S.cr d).cells,bl (S.ze d o)]) S.h0:=
 S.at_ (Gy S d o) (λ ρ=>by simp[SV.aN,SV.aC,Dt.aq,ag.aq]) (λ ρ=>by simp[SV.aN,SV.aC,Cr.aq]) n0 rY k
set_option maxHeartbeats 8000000 in
theorem JK (S:Sh)(o:ag)(hk:o.kind<256)(JL:o.mC)(ab:Bool)(m:Nat)(hab:∀ k,aH Tryz.prog tree_Tree_Above.f [.ptr 4 0,.agg o.aP.cells,.agg o.at_.cells] S.h4 k m (bl ab) S.h4):
  SB Tryz.prog shape_Shape_target.f [.ptr 0 0,.agg o.cells] S.h0 7 0 λ r F=>r=bl (S.tgt o ab)/\F=S.h0:=by
 refine shape_Shape_target.enter (by simp[SV.ax,SV.ok]) (S.ok (Nat.le_refl 7)) (by simp) ?_;dsimp only[shape_Shape_target.s,Co.M,Co.J,Co.H,Co.F,Co.C,Co.B,Co.b8,Co.aB,Co.bE,Co.i6,Co.T,Co.K,Co.E,Co.Q,Co.R,Co.x,Co.W,Co.U,Co.O,Co.D,Co.S];have h6:=S.ok (Nat.le_refl 7);refine SW.seq (SW.g0 bm Zm aa ?_);refine SW.seq (SW.seq (SW.g0 bm Zm aa ?_));refine SW.block (SW.seq ?_)
 by_cases k2:o.kind=2
 .have q2:(((o.kind:Nat):Int) == 2)=true:=by rw[k2];rfl
  have e:S.tgt o ab=(S.ze o.at_ o && ab):=by unfold Sh.tgt;rw[if_pos k2]
  rw[e];have hc:=Dj S o.at_ o;obtain⟨c,hcc⟩:∃ c,S.cr o.at_=c:=⟨_,rfl⟩;rw[hcc] at hc;refine SW.g0 bm Zm q2 ?_;refine SW.ai rfl (SW.seq (SW.g1 bm Zm aa hc ?_));refine SW.seq ?_;rcases h:S.ze o.at_ o with _|_
  .refine SW.g1 bm Zm aa hab ?_
   refine SW.ret ?_;exact End.mk S.h0 (h4:=⟨rfl,rfl⟩) (h6:=h6)
  .refine SW.g1 bm Zm aa hab ?_
   refine SW.ret ?_;exact End.mk S.h0 (h4:=⟨rfl,rfl⟩) (h6:=h6) (h7:=by show 7+0<=10+m;omega)
 have q2:(((o.kind:Nat):Int) == 2)=false:=by simp;omega
 refine SW.g0 bm Zm q2 ?_;refine SW.an rfl (SW.seq (SW.seq ?_))
 by_cases k45:o.kind=4\/o.kind=5
 .have e:S.tgt o ab=S.line o.at_ o:=by unfold Sh.tgt;rw[if_neg k2,if_pos k45]
  rw[e];have hl:=Di S o.at_ o;rcases k45 with k4|k5
  .have q4:(((o.kind:Nat):Int) == 4)=true:=by rw[k4];rfl
   refine SW.g0 bm Zm q4 ?_;refine SW.ai rfl (SW.skip (SW.ai rfl (SW.seq (SW.g1 bm Zm aa hl ?_))));refine SW.ret ?_;exact End.mk S.h0 (h4:=⟨rfl,rfl⟩) (h6:=h6)
  .have q4:(((o.kind:Nat):Int) == 4)=false:=by simp;omega
   have q5:(((o.kind:Nat):Int) == 5)=true:=by rw[k5];rfl
   refine SW.g0 bm Zm q4 ?_;refine SW.an rfl (SW.g0 bm Zm q5 ?_);refine SW.ai rfl (SW.seq (SW.g1 bm Zm aa hl ?_));refine SW.ret ?_;exact End.mk S.h0 (h4:=⟨rfl,rfl⟩) (h6:=h6)
 have q4:(((o.kind:Nat):Int) == 4)=false:=by simp;omega
 have q5:(((o.kind:Nat):Int) == 5)=false:=by simp;omega
 refine SW.g0 bm Zm q4 ?_;refine SW.an rfl (SW.g0 bm Zm q5 ?_);refine SW.an rfl (SW.seq (SW.seq ?_))
 by_cases k67:o.kind=6\/o.kind=7
 .have e:S.tgt o ab=S.tu ⟨o.at_,o.jA⟩ o:=by unfold Sh.tgt;rw[if_neg k2,if_neg k45,if_pos k67]
  rw[e];have hl:=GA S ⟨o.at_,o.jA⟩ o;have hb:=Cm.Ft o.at_ o.jA;rcases k67 with k6|k7
  .have q6:(((o.kind:Nat):Int) == 6)=true:=by rw[k6];rfl
   refine SW.g0 bm Zm q6 ?_;refine SW.ai rfl (SW.skip (SW.ai rfl (SW.seq (SW.g1 bm Zm hb hl ?_))));refine SW.ret ?_;exact End.mk S.h0 (h4:=⟨rfl,rfl⟩) (h6:=h6)
  .have q6:(((o.kind:Nat):Int) == 6)=false:=by simp;omega
   have q7:(((o.kind:Nat):Int) == 7)=true:=by rw[k7];rfl
   refine SW.g0 bm Zm q6 ?_;refine SW.an rfl (SW.g0 bm Zm q7 ?_);refine SW.ai rfl (SW.seq (SW.g1 bm Zm hb hl ?_));refine SW.ret ?_;exact End.mk S.h0 (h4:=⟨rfl,rfl⟩) (h6:=h6)
 have q6:(((o.kind:Nat):Int) == 6)=false:=by simp;omega
 have q7:(((o.kind:Nat):Int) == 7)=false:=by simp;omega
 refine SW.g0 bm Zm q6 ?_;refine SW.an rfl (SW.g0 bm Zm q7 ?_);refine SW.an rfl (SW.seq ?_)
 by_cases k8:o.kind=8
 .have e:S.tgt o ab= !(o.cl.any λ c=> !S.tu c o):=by unfold Sh.tgt;rw[if_neg k2,if_neg k45,if_neg k67,if_pos k8]
  rw[e];have q8:(((o.kind:Nat):Int) == 8)=true:=by rw[k8];rfl
  have hcf:=GH S o o.cl JL.le;have hle:=JL.eq;obtain⟨b,hb⟩:∃ b,(o.cl.any λ c=> !S.tu c o)=b:=⟨_,rfl⟩;rw[hb] at hcf ⊢;refine SW.g0 bm Zm q8 ?_;refine SW.ai rfl (SW.seq ?_);rcases b with _|_
  .refine SW.g1 bm Zm hle hcf ?_
   refine SW.ret ?_;exact End.mk S.h0 (h4:=⟨rfl,rfl⟩) (h6:=h6)
  .refine SW.g1 bm Zm hle hcf ?_
   refine SW.ret ?_;exact End.mk S.h0 (h4:=⟨rfl,rfl⟩) (h6:=h6)
 have q8:(((o.kind:Nat):Int) == 8)=false:=by simp;omega
 have e:S.tgt o ab=true:=by unfold Sh.tgt;rw[if_neg k2,if_neg k45,if_neg k67,if_neg k8]
 rw[e];refine SW.g0 bm Zm q8 ?_;refine SW.an rfl (SW.skip (SW.seq (SW.g0 bm Zm aa ?_)));refine SW.ret ?_;exact End.mk S.h0 (h4:=⟨rfl,rfl⟩) (h6:=h6)
theorem Mr (S:Sh)(o:ag)(hk:o.kind<256)(JL:o.mC)(ab:Bool)(m:Nat)(hab:∀ k,aH Tryz.prog tree_Tree_Above.f [.ptr 4 0,.agg o.aP.cells,.agg o.at_.cells] S.h4 k m (bl ab) S.h4)(k:Nat):
  aH Tryz.prog shape_Shape_target.f [.ptr 0 0,.agg o.cells] S.h0 k 0 (bl (S.tgt o ab)) S.h0:=
 S.at_ (JK S o hk JL ab m hab) (λ ρ=>by simp[SV.aN,SV.aC,ag.aq]) (λ _=>rfl) n0 rY k
end
end
section
def oG (c:Cr)(kind:Nat):Bool:=bits .and .u8 (c.bn:Int) (kg kind:Int) != (kg kind:Int)
theorem Ms (a:Cr)(o:ag)(g:Bool)(k:Nat):Hp.aC (eu [11,9,8] k) [(0,.box 4 [bl g]),(1,.box 158 a.cells),(2,.box 43 o.cells)]=[(11,.box 4 [bl g]),(9,.box 158 a.cells),(8,.box 43 o.cells)]:=by
 simp only[Hp.aC,List.map_cons,List.map_nil,Ob.aC,SV.aN,SV.aC,ag.aq,Cr.aq];rfl
theorem Mt (a:Cr)(o:ag)(k:Nat):Hp.aC (eu [9,8] k) [(0,.box 158 a.cells),(1,.box 43 o.cells)]=[(9,.box 158 a.cells),(8,.box 43 o.cells)]:=by
 simp only[Hp.aC,List.map_cons,List.map_nil,Ob.aC,SV.aN,SV.aC,ag.aq,Cr.aq];rfl
section
attribute [local irreducible] SW RW aH SC aj ak kg
theorem GI (o:ag):SB Tryz.prog shape_Shape_Why_1.f [.ptr 0 0] [(0,.box 43 o.cells)] 1 0 λ r F=>r=bl (decide ((o.kind:Int)>8))/\F=[(0,.box 43 o.cells)]:=by
 refine shape_Shape_Why_1.enter (by first|rfl|simp[SV.ok,SV.ax]) (by first|rfl|simp[Hp.ok,Ob.ok,SV.ok,SV.ax,ay.ah]) (by simp) ?_;dsimp only[shape_Shape_Why_1.s,Co.M,Co.J,Co.F,Co.B,Co.b8,Co.T,Co.D,Co.S];refine SW.seq (SW.g0 [0,1] Zm aa ?_);refine SW.seq (SW.g0 [0,1] Zm aa ?_);refine SW.ret ?_;exact End.mk [(0,.box 43 o.cells)] (h4:=⟨rfl,rfl⟩)
theorem GJ (o:ag)(k:Nat):aH Tryz.prog shape_Shape_Why_1.f [.ptr 8 0] [(8,.box 43 o.cells)] k 0 (bl (decide ((o.kind:Int)>8))) [(8,.box 43 o.cells)]:=by
 have:=SB.lR [8] (GI o) (by decide) (λ i hi=>by rw[show i=0 by simp at hi;omega];simp[af]) k;simp only[Hp.aC,List.map_cons,List.map_nil,Ob.aC,SV.aN,SV.aC,ag.aq] at this;exact this
theorem GK (S:Sh)(o:ag):SB Tryz.prog shape_Shape_Why_2.f [.ptr 7 0,.ptr 8 0] (S.ht o) 9 0 λ r F=>r=bl (!S.aK o)/\F=S.ht o:=by
 refine shape_Shape_Why_2.enter (by simp[SV.ax,SV.ok]) (S.jC o (Nat.le_refl 9)) (by simp) ?_;dsimp only[shape_Shape_Why_2.s,Co.M,Co.J,Co.F,Co.B,Co.T,Co.K,Co.Q,Co.O,Co.S];have hc:∀ k,aH Tryz.prog shape_Shape_cart.f [.ptr 0 0,.agg o.cells] S.h0 k 0 (bl (S.aK o)) S.h0:=S.at_ (Gx S o) (λ ρ=>by simp[SV.aN,SV.aC,ag.aq]) (λ _=>rfl) n0 rY;refine SW.seq (SW.g0 du Zm aa ?_);refine SW.seq (SW.g1 du Zm aa hc ?_);refine SW.ret ?_;exact End.mk (S.ht o) (h4:=⟨rfl,rfl⟩) (h6:=S.jC o (Nat.le_refl 9))
theorem GL (S:Sh)(o:ag)(k:Nat):aH Tryz.prog shape_Shape_Why_2.f [.ptr 7 0,.ptr 8 0] (S.ht o) k 0 (bl (!S.aK o)) (S.ht o):=S.NB o (GK S o) k rfl (λ _=>rfl)
theorem GM (g h:Bool):SB Tryz.prog shape_Shape_Why_3.f [.ptr 0 0,.ptr 1 0] [(0,.box 4 [bl g]),(1,.box 4 [bl h])] 2 0 λ r F=>r=bl (!g && !h)/\F=[(0,.box 4 [bl g]),(1,.box 4 [bl h])]:=by
 refine shape_Shape_Why_3.enter (by first|rfl|simp[SV.ok,SV.ax]) (by first|rfl|simp[Hp.ok,Ob.ok,SV.ok,SV.ax,ay.ah]) (by simp) ?_;dsimp only[shape_Shape_Why_3.s,Co.M,Co.J,Co.H,Co.F,Co.B,Co.T,Co.U,Co.O,Co.S];refine SW.seq (SW.g0 du Zm aa ?_);refine SW.seq ?_;rcases g with _|_
 .refine SW.g0 du Zm aa ?_
  refine SW.ret ?_;exact End.mk _ (h3:=λ _ _ h=>h) (h4:=⟨by simp[fB],rfl⟩)
 .refine SW.g0 du Zm aa ?_
  refine SW.ret ?_;exact End.mk _ (h3:=λ _ _ h=>h) (h4:=⟨rfl,rfl⟩)
theorem GN (g h:Bool)(k:Nat):aH Tryz.prog shape_Shape_Why_3.f [.ptr 11 0,.ptr 10 0] [(11,.box 4 [bl g]),(10,.box 4 [bl h])] k 0 (bl (!g && !h)) [(11,.box 4 [bl g]),(10,.box 4 [bl h])]:=by
 have:=SB.lR [11,10] (GM g h) (by decide) (λ i hi=>by rcases(show i=0\/i=1 by simp at hi;omega) with rfl|rfl<;>simp[af]) k;exact this
theorem GO (g:Bool)(c:Cr)(o:ag):SB Tryz.prog shape_Shape_Why_4.f [.ptr 0 0,.ptr 1 0,.ptr 2 0] [(0,.box 4 [bl g]),(1,.box 158 c.cells),(2,.box 43 o.cells)] 3 0 λ r F=>r=bl (!g && ((c.hold:Int) != (o.who:Int)))/\F=[(0,.box 4 [bl g]),(1,.box 158 c.cells),(2,.box 43 o.cells)]:=by
 refine shape_Shape_Why_4.enter (by first|rfl|simp[SV.ok,SV.ax]) (by first|rfl|simp[Hp.ok,Ob.ok,SV.ok,SV.ax,ay.ah]) (by simp) ?_;dsimp only[shape_Shape_Why_4.s,Co.M,Co.J,Co.H,Co.F,Co.B,Co.T,Co.U,Co.O,Co.S];refine SW.seq (SW.g0 ib Zm aa ?_);refine SW.seq ?_;rcases g with _|_
 .refine SW.g0 ib Zm aa ?_
  refine SW.ret ?_;exact End.mk _ (h3:=λ _ _ h=>h) (h4:=⟨by simp[fB],rfl⟩)
 .refine SW.g0 ib Zm aa ?_
  refine SW.ret ?_;exact End.mk _ (h3:=λ _ _ h=>h) (h4:=⟨rfl,rfl⟩)
theorem GP (g:Bool)(c:Cr)(o:ag)(k:Nat):aH Tryz.prog shape_Shape_Why_4.f [.ptr 11 0,.ptr 9 0,.ptr 8 0] [(11,.box 4 [bl g]),(9,.box 158 c.cells),(8,.box 43 o.cells)] k 0 (bl (!g && ((c.hold:Int) != (o.who:Int)))) [(11,.box 4 [bl g]),(9,.box 158 c.cells),(8,.box 43 o.cells)]:=by
 have:=SB.lR [11,9,8] (GO g c o) (by decide) (λ i hi=>by rcases(show i=0\/i=1\/i=2 by simp at hi;omega) with rfl|rfl|rfl<;>simp[af]) k;rw[Ms] at this;exact this
theorem GQ (c:Cr)(o:ag)(hk:o.kind<256):SB Tryz.prog shape_Shape_Why_5.f [.ptr 0 0,.ptr 1 0] [(0,.box 158 c.cells),(1,.box 43 o.cells)] 2 0 λ r F=>r=bl (oG c o.kind)/\F=[(0,.box 158 c.cells),(1,.box 43 o.cells)]:=by
 refine shape_Shape_Why_5.enter (by first|rfl|simp[SV.ok,SV.ax]) (by first|rfl|simp[Hp.ok,Ob.ok,SV.ok,SV.ax,ay.ah]) (by simp) ?_;dsimp only[shape_Shape_Why_5.s,Co.M,Co.J,Co.F,Co.B,Co.T,Co.P,Co.V,Co.D,Co.S];have hn:=GC o.kind hk;refine SW.seq (SW.g0 du Zm aa ?_);refine SW.seq (SW.g1 du Zm aa hn ?_);refine SW.ret ?_;exact End.mk _ (h3:=λ _ _ h=>h) (h4:=⟨rfl,rfl⟩)
theorem GR (c:Cr)(o:ag)(hk:o.kind<256)(k:Nat):aH Tryz.prog shape_Shape_Why_5.f [.ptr 9 0,.ptr 8 0] [(9,.box 158 c.cells),(8,.box 43 o.cells)] k 0 (bl (oG c o.kind)) [(9,.box 158 c.cells),(8,.box 43 o.cells)]:=by
 have:=SB.lR [9,8] (GQ c o hk) (by decide) (λ i hi=>by rcases(show i=0\/i=1 by simp at hi;omega) with rfl|rfl<;>simp[af]) k;rw[Mt] at this;exact this
theorem Mu (S:Sh)(o:ag)(k:Nat):aH Tryz.prog tree_Tree_Why.f [.ptr 4 0,.agg o.cells] S.h4 k 4 (i64 (S.T.why o)) S.h4:=Gg S.Mo o k
theorem GS (S:Sh)(o:ag):SB Tryz.prog shape_Shape_Why_6.f [.ptr 8 0,.ptr 7 0] (S.ht o) 9 0 λ r F=>r=bl (decide (o.kind=1) && decide (S.T.why o≠0))/\F=S.ht o:=by
 refine shape_Shape_Why_6.enter (by simp[SV.ax,SV.ok]) (S.jC o (Nat.le_refl 9)) (by simp) ?_;dsimp only[shape_Shape_Why_6.s,Co.M,Co.J,Co.H,Co.F,Co.C,Co.Z,Co.B,Co.b8,Co.T,Co.U,Co.D,Co.S];have hw:=Mu S o;obtain⟨w,hww⟩:∃ w,S.T.why o=w:=⟨_,rfl⟩;rw[hww] at hw ⊢;refine SW.seq (SW.g0 du Zm aa ?_);refine SW.seq ?_
 by_cases h:o.kind=1
 .have q:(((o.kind:Nat):Int) == 1)=true:=by rw[h];rfl
  have hz:(((w:Nat):Int) != 0)=decide (w≠0):=by rw[Bool.eq_iff_iff];simp
  refine SW.g1 du Zm (Zq q hz) hw ?_;refine SW.ret ?_;exact End.mk (S.ht o) (h4:=⟨by simp[fB,h],rfl⟩) (h6:=S.jC o (Nat.le_refl 9))
 .have q:(((o.kind:Nat):Int) == 1)=false:=by simp;omega
  refine SW.g1 du Zm q hw ?_;refine SW.ret ?_;exact End.mk (S.ht o) (h4:=⟨by simp[fB,h],rfl⟩) (h6:=S.jC o (Nat.le_refl 9))
theorem GU (S:Sh)(o:ag)(k:Nat):aH Tryz.prog shape_Shape_Why_6.f [.ptr 8 0,.ptr 7 0] (S.ht o) k 0 (bl (decide (o.kind=1) && decide (S.T.why o≠0))) (S.ht o):=S.NB o (GS S o) k rfl (λ _=>rfl)
theorem GV (S:Sh)(o:ag)(b:Bool)(hc:∀ k,aH Tryz.prog shape_Shape_target.f [.ptr 0 0,.agg o.cells] S.h0 k 0 (bl b) S.h0):SB Tryz.prog shape_Shape_Why_7.f [.ptr 7 0,.ptr 8 0] (S.ht o) 9 0 λ r F=>r=bl (!b)/\F=S.ht o:=by
 refine shape_Shape_Why_7.enter (by simp[SV.ax,SV.ok]) (S.jC o (Nat.le_refl 9)) (by simp) ?_;dsimp only[shape_Shape_Why_7.s,Co.M,Co.J,Co.F,Co.B,Co.T,Co.K,Co.Q,Co.O,Co.S];refine SW.seq (SW.g0 du Zm aa ?_);refine SW.seq (SW.g1 du Zm aa hc ?_);refine SW.ret ?_;exact End.mk (S.ht o) (h4:=⟨rfl,rfl⟩) (h6:=S.jC o (Nat.le_refl 9))
theorem GW (S:Sh)(o:ag)(b:Bool)(hc:∀ k,aH Tryz.prog shape_Shape_target.f [.ptr 0 0,.agg o.cells] S.h0 k 0 (bl b) S.h0)(k:Nat):aH Tryz.prog shape_Shape_Why_7.f [.ptr 7 0,.ptr 8 0] (S.ht o) k 0 (bl (!b)) (S.ht o):=S.NB o (GV S o b hc) k rfl (λ _=>rfl)
theorem GX (S:Sh):SB Tryz.prog shape_Shape_none.f [.ptr 0 0] S.h0 7 0 λ r F=>r=bl false/\F=S.h0:=by
 refine shape_Shape_none.enter (by simp[SV.ax,SV.ok]) (S.ok (Nat.le_refl 7)) (by simp) ?_;dsimp only[shape_Shape_none.s,Co.M,Co.G,Co.J,Co.H,Co.F,Co.B,Co.S];(repeat (first|refine SW.seq ?_|refine SW.block ?_|refine SW.g0 fv Zm aa ?_|refine SW.skip ?_|refine SW.exit ?_|refine SW.ret ?_|refine SW.ai rfl ?_|refine SW.an rfl ?_));exact End.mk S.h0 (h4:=⟨rfl,rfl⟩) (h6:=S.ok (Nat.le_refl 7))
theorem uR (S:Sh)(k:Nat):aH Tryz.prog shape_Shape_none.f [.ptr 0 0] S.h0 k 0 (bl false) S.h0:=S.at_ (GX S) (λ _=>rfl) (λ _=>rfl) n0 rY k
end
end
section
def tv:List SV:=[.d (.int .i64 2),.fn (.func 125) [] [.ptr 8 0],.d (.int .i64 271),.fn (.func 126) [] [.ptr 7 0,.ptr 8 0],.d (.int .i64 272),.fn (.func 128) [] [.ptr 11 0,.ptr 10 0],.d (.int .i64 273),.fn (.func 129) [] [.ptr 11 0,.ptr 9 0,.ptr 8 0],.d (.int .i64 274),.fn (.func 130) [] [.ptr 9 0,.ptr 8 0],.d (.int .i64 275),.fn (.func 132) [] [.ptr 8 0,.ptr 7 0],.d (.int .i64 276),.fn (.func 134) [] [.ptr 7 0,.ptr 8 0]]
theorem GY:List.take 2 tv=[.d (.int .i64 2),.fn (.func 125) [] [.ptr 8 0]]:=rfl
theorem GZ:List.take 2 (List.drop 2 tv)=[.d (.int .i64 271),.fn (.func 126) [] [.ptr 7 0,.ptr 8 0]]:=rfl
theorem G2:List.take 2 (List.drop 4 tv)=[.d (.int .i64 272),.fn (.func 128) [] [.ptr 11 0,.ptr 10 0]]:=rfl
theorem G3:List.take 2 (List.drop 6 tv)=[.d (.int .i64 273),.fn (.func 129) [] [.ptr 11 0,.ptr 9 0,.ptr 8 0]]:=rfl
theorem G4:List.take 2 (List.drop 8 tv)=[.d (.int .i64 274),.fn (.func 130) [] [.ptr 9 0,.ptr 8 0]]:=rfl
theorem G5:List.take 2 (List.drop 10 tv)=[.d (.int .i64 275),.fn (.func 132) [] [.ptr 8 0,.ptr 7 0]]:=rfl
theorem G6:List.take 2 (List.drop 12 tv)=[.d (.int .i64 276),.fn (.func 134) [] [.ptr 7 0,.ptr 8 0]]:=rfl
theorem Ow:∀ (x0 x1 x2 x3 x4 x5 x6 x7 x8 x9 O_ Pa Pb Pc a0 b0 a1 b1 a2 b2 a3 b3 a4 b4 a5 b5 a6 b6:SV),(b_ (b_ (b_ (b_ (b_ (b_ (b_ ([x0,x1,x2,x3,x4,x5,x6,x7,x8,x9,O_,Pa,Pb,Pc]) 0 [a0,b0]) 2 [a1,b1]) 4 [a2,b2]) 6 [a3,b3]) 8 [a4,b4]) 10 [a5,b5]) 12 [a6,b6])=[a0,b0,a1,b1,a2,b2,a3,b3,a4,b4,a5,b5,a6,b6]:=λ _ _ _ _ _ _ _ _ _ _ _ _ _ _ _ _ _ _ _ _ _ _ _ _ _ _ _ _=>rfl
@[simp] theorem Ox:tv.length=14:=rfl
theorem l_:SV.ax (λ n=>decide (n<12)) tv=true:=rfl
def Sh.rZ (S:Sh)(o:ag)(ab:Bool):Nat->Bool
 | 0=>decide ((o.kind:Int)>8)
 | 1=> !S.aK o
 | 2=> !((o.kind:Int) == 0) && !S.ze o.aP o
 | 3=> !((o.kind:Int) == 0) && (((S.cr o.aP).hold:Int) != (o.who:Int))
 | 4=>oG (S.cr o.aP) o.kind
 | 5=>decide (o.kind=1) && decide (S.T.why o≠0)
 | _=> !S.tgt o ab
def Sh.why (S:Sh)(o:ag)(ab:Bool):Nat:=
 if S.rZ o ab 0 then 2 else if S.rZ o ab 1 then 271 else if S.rZ o ab 2 then 272 else if S.rZ o ab 3 then 273 else if S.rZ o ab 4 then 274 else if S.rZ o ab 5 then 275 else if S.rZ o ab 6 then 276 else 0
abbrev Sh.hw (S:Sh)(o:ag)(c:Cr)(g h:Bool):Hp:=(11,.box 4 [bl g])::(10,.box 4 [bl h])::(9,.box 158 c.cells)::S.ht o
theorem Sh.Oy (S:Sh)(o:ag)(c:Cr)(g h:Bool){k:Nat}(hk:12<=k):(S.hw o c g h).ok (λ n=>decide (n<k))=true:=by
 have:=S.jC o (k:=k) (by omega);simp only[Sh.hw,Hp.ok,List.all_cons,Ob.ok,Cr.ah,SV.ax,SV.ok,Bool.and_true,Bool.and_eq_true,decide_eq_true_eq] at this ⊢;exact⟨by omega,by omega,by omega,this⟩
section
attribute [local irreducible] SW RW aH SC aj ak kg Sh.tgt Sh.aK Sh.ze oG tv
set_option maxHeartbeats 8000000 in
theorem JM (S:Sh)(o:ag)(hk:o.kind<256)(ab:Bool)(hT:∀ k,aH Tryz.prog shape_Shape_target.f [.ptr 0 0,.agg o.cells] S.h0 k 0 (bl (S.tgt o ab)) S.h0):
  SB Tryz.prog shape_Shape_Why.f [.ptr 0 0,.agg o.cells] S.h0 7 0 λ r F=>r=i64 (S.why o ab)/\F=S.h0:=by
 refine shape_Shape_Why.enter (by simp[SV.ax,SV.ok]) (S.ok (Nat.le_refl 7)) (by simp) ?_;dsimp only[shape_Shape_Why.s,Co.M,Co.J,Co.F,Co.Z,Co.b8,Co.aB,Co.bE,Co.i6,Co.T,Co.K,Co.E,Co.P,Co.R,Co.x,Co.W,Co.Y,Co.D,Co.S];have h6:=S.ok (Nat.le_refl 7);have hn:=uR S;refine SW.seq (SW.g0 bj Zm aa ?_);refine SW.seq (SW.seq (SW.g1 bj Zm aa hn ?_));refine SW.an rfl (SW.skip ?_);have hc:=Dj S o.aP o;obtain⟨c,hcc⟩:∃ c,S.cr o.aP=c:=⟨_,rfl⟩;obtain⟨h,hh⟩:∃ h,S.ze o.aP o=h:=⟨_,rfl⟩;obtain⟨g,hg⟩:∃ g,((o.kind:Int) == 0)=g:=⟨_,rfl⟩;have e2:S.rZ o ab 2=(!g && !h):=by show(!((o.kind:Int) == 0) && !S.ze o.aP o)=_;rw[hg,hh]
 have e3:S.rZ o ab 3=(!g && ((c.hold:Int) != (o.who:Int))):=by show(!((o.kind:Int) == 0) && (((S.cr o.aP).hold:Int) != (o.who:Int)))=_;rw[hg,hcc]
 have e4:S.rZ o ab 4=oG c o.kind:=by show oG (S.cr o.aP) o.kind=_;rw[hcc]
 rw[hcc,hh] at hc;refine SW.seq (SW.g1 bj Zm aa hc ?_);refine SW.seq (SW.g0 bj Zm hg ?_);refine SW.seq (SW.seq ?_);have eR:([.d (.int .i64 2),.fn (.func 125) [] [.ptr 8 0],.d (.int .i64 271),.fn (.func 126) [] [.ptr 7 0,.ptr 8 0],.d (.int .i64 272),.fn (.func 128) [] [.ptr 11 0,.ptr 10 0],.d (.int .i64 273),.fn (.func 129) [] [.ptr 11 0,.ptr 9 0,.ptr 8 0],.d (.int .i64 274),.fn (.func 130) [] [.ptr 9 0,.ptr 8 0],.d (.int .i64 275),.fn (.func 132) [] [.ptr 8 0,.ptr 7 0],.d (.int .i64 276),.fn (.func 134) [] [.ptr 7 0,.ptr 8 0]]:List SV)=tv:=by unfold tv;rfl
 refine SW.g0 bj Zm (Zq Ax (Zq Ow eR)) ?_;refine SW.block ?_;have nd:((S.hw o c g h).map (·.1)).Nodup:=by simp
 have hH:=S.Oy o c g h (Nat.le_refl 12);have c0:∀ k,aH Tryz.prog 125 [.ptr 8 0] [(8,.box 43 o.cells)] k 0 (bl (S.rZ o ab 0)) [(8,.box 43 o.cells)]:=λ k=>GJ o k
 have c1:∀ k,aH Tryz.prog 126 [.ptr 7 0,.ptr 8 0] (S.ht o) k 0 (bl (S.rZ o ab 1)) (S.ht o):=λ k=>GL S o k
 have c2:∀ k,aH Tryz.prog 128 [.ptr 11 0,.ptr 10 0] [(11,.box 4 [bl g]),(10,.box 4 [bl h])] k 0 (bl (S.rZ o ab 2)) [(11,.box 4 [bl g]),(10,.box 4 [bl h])]:=λ k=>by rw[e2];exact GN g h k
 have c3:∀ k,aH Tryz.prog 129 [.ptr 11 0,.ptr 9 0,.ptr 8 0] [(11,.box 4 [bl g]),(9,.box 158 c.cells),(8,.box 43 o.cells)] k 0 (bl (S.rZ o ab 3)) [(11,.box 4 [bl g]),(9,.box 158 c.cells),(8,.box 43 o.cells)]:=λ k=>by rw[e3];exact GP g c o k
 have c4:∀ k,aH Tryz.prog 130 [.ptr 9 0,.ptr 8 0] [(9,.box 158 c.cells),(8,.box 43 o.cells)] k 0 (bl (S.rZ o ab 4)) [(9,.box 158 c.cells),(8,.box 43 o.cells)]:=λ k=>by rw[e4];exact GR c o hk k
 have c5:∀ k,aH Tryz.prog 132 [.ptr 8 0,.ptr 7 0] (S.ht o) k 0 (bl (S.rZ o ab 5)) (S.ht o):=λ k=>GU S o k
 have c6:∀ k,aH Tryz.prog 134 [.ptr 7 0,.ptr 8 0] (S.ht o) k 0 (bl (S.rZ o ab 6)) (S.ht o):=λ k=>GW S o _ hT k
 have hw:S.why o ab=if S.rZ o ab 0 then 2 else if S.rZ o ab 1 then 271 else if S.rZ o ab 2 then 272 else if S.rZ o ab 3 then 273 else if S.rZ o ab 4 then 274 else if S.rZ o ab 5 then 275 else if S.rZ o ab 6 then 276 else 0:=rfl
 generalize S.rZ o ab=rb at c0 c1 c2 c3 c4 c5 c6 hw;rw[hw];clear hw e2 e3 e4 hc hn;refine SW.loop (α:={i:Nat // i<=7/\∀ j,j<i->rb j=false}) (λ i=>⟨[(38,i64 i.1),(37,.agg tv)],S.hw o c g h,12⟩) (λ i=>7 - i.1) ⟨0,by omega,λ j hj=>absurd hj (by omega)⟩ id ?_ ?_
 .exact aG.same (by simp) (by simp[aJ,List.lookup,SV.aC,SV.bS,SV.ok,l_]) hH (aI nd)
 rintro⟨i,hi,hz⟩;have hdrop:∀ (o2:Ob) (x:Nat×Ob),x∈S.hw o c g h->lk ((12,o2)::S.hw o c g h) x.1=some x.2:=λ o2 x hx=>by
  have hl:=aI nd x hx;rw[af,if_neg ?_]
  .exact hl
  .intro e
   have:=(Hp.fu hH hl).1;simp at this;omega
 match i,hi,hz with
 | 0,_,hz=>
  rcases(Bool.eq_false_or_eq_true (rb 0)).symm with h0|h0
  .rw[h0] at c0
   (repeat (first|refine SW.seq ?_|refine SW.block ?_|refine SW.g1 bj Zm (Zq GY gF) c0 ?_|refine SW.skip ?_|refine SW.exit ?_|refine SW.ret ?_|refine SW.ai rfl ?_|refine SW.an rfl ?_));exact⟨⟨1,by omega,λ j hj=>by
    rcases Nat.lt_succ_iff_lt_or_eq.1 hj with hj|rfl
    .exact hz j hj
    .exact h0⟩,id,by dsimp only;omega,aG.same (by simp) (by simp[aJ,List.lookup,SV.aC,SV.bS,SV.ok,l_]) hH (λ x hx=>hdrop _ x hx)⟩
  .rw[h0] at c0
   (repeat (first|refine SW.seq ?_|refine SW.block ?_|refine SW.g1 bj Zm (Zq GY gF) c0 ?_|refine SW.skip ?_|refine SW.exit ?_|refine SW.ret ?_|refine SW.ai rfl ?_|refine SW.an rfl ?_));exact End.mk S.h0 (h4:=⟨by  rw[if_pos h0];rfl,rfl⟩) (h6:=h6)
 | 1,_,hz=>
  have z0:rb 0=false:=hz 0 (by omega);rcases(Bool.eq_false_or_eq_true (rb 1)).symm with h0|h0
  .rw[h0] at c1
   (repeat (first|refine SW.seq ?_|refine SW.block ?_|refine SW.g1 bj Zm (Zq GZ gF) c1 ?_|refine SW.skip ?_|refine SW.exit ?_|refine SW.ret ?_|refine SW.ai rfl ?_|refine SW.an rfl ?_));exact⟨⟨2,by omega,λ j hj=>by
    rcases Nat.lt_succ_iff_lt_or_eq.1 hj with hj|rfl
    .exact hz j hj
    .exact h0⟩,id,by dsimp only;omega,aG.same (by simp) (by simp[aJ,List.lookup,SV.aC,SV.bS,SV.ok,l_]) hH (λ x hx=>hdrop _ x hx)⟩
  .rw[h0] at c1
   (repeat (first|refine SW.seq ?_|refine SW.block ?_|refine SW.g1 bj Zm (Zq GZ gF) c1 ?_|refine SW.skip ?_|refine SW.exit ?_|refine SW.ret ?_|refine SW.ai rfl ?_|refine SW.an rfl ?_));exact End.mk S.h0 (h4:=⟨by rw[if_neg (by rw[z0];simp)];rw[if_pos h0];rfl,rfl⟩) (h6:=h6)
 | 2,_,hz=>
  have z0:rb 0=false:=hz 0 (by omega);have z1:rb 1=false:=hz 1 (by omega);rcases(Bool.eq_false_or_eq_true (rb 2)).symm with h0|h0
  .rw[h0] at c2
   (repeat (first|refine SW.seq ?_|refine SW.block ?_|refine SW.g1 bj Zm (Zq G2 gF) c2 ?_|refine SW.skip ?_|refine SW.exit ?_|refine SW.ret ?_|refine SW.ai rfl ?_|refine SW.an rfl ?_));exact⟨⟨3,by omega,λ j hj=>by
    rcases Nat.lt_succ_iff_lt_or_eq.1 hj with hj|rfl
    .exact hz j hj
    .exact h0⟩,id,by dsimp only;omega,aG.same (by simp) (by simp[aJ,List.lookup,SV.aC,SV.bS,SV.ok,l_]) hH (λ x hx=>hdrop _ x hx)⟩
  .rw[h0] at c2
   (repeat (first|refine SW.seq ?_|refine SW.block ?_|refine SW.g1 bj Zm (Zq G2 gF) c2 ?_|refine SW.skip ?_|refine SW.exit ?_|refine SW.ret ?_|refine SW.ai rfl ?_|refine SW.an rfl ?_));exact End.mk S.h0 (h4:=⟨by rw[if_neg (by rw[z0];simp)];rw[if_neg (by rw[z1];simp)];rw[if_pos h0];rfl,rfl⟩) (h6:=h6)
 | 3,_,hz=>
  have z0:rb 0=false:=hz 0 (by omega);have z1:rb 1=false:=hz 1 (by omega);have z2:rb 2=false:=hz 2 (by omega);rcases(Bool.eq_false_or_eq_true (rb 3)).symm with h0|h0
  .rw[h0] at c3
   (repeat (first|refine SW.seq ?_|refine SW.block ?_|refine SW.g1 bj Zm (Zq G3 gF) c3 ?_|refine SW.skip ?_|refine SW.exit ?_|refine SW.ret ?_|refine SW.ai rfl ?_|refine SW.an rfl ?_));exact⟨⟨4,by omega,λ j hj=>by
    rcases Nat.lt_succ_iff_lt_or_eq.1 hj with hj|rfl
    .exact hz j hj
    .exact h0⟩,id,by dsimp only;omega,aG.same (by simp) (by simp[aJ,List.lookup,SV.aC,SV.bS,SV.ok,l_]) hH (λ x hx=>hdrop _ x hx)⟩
  .rw[h0] at c3
   (repeat (first|refine SW.seq ?_|refine SW.block ?_|refine SW.g1 bj Zm (Zq G3 gF) c3 ?_|refine SW.skip ?_|refine SW.exit ?_|refine SW.ret ?_|refine SW.ai rfl ?_|refine SW.an rfl ?_));exact End.mk S.h0 (h4:=⟨by rw[if_neg (by rw[z0];simp)];rw[if_neg (by rw[z1];simp)];rw[if_neg (by rw[z2];simp)];rw[if_pos h0];rfl,rfl⟩) (h6:=h6)
 | 4,_,hz=>
  have z0:rb 0=false:=hz 0 (by omega);have z1:rb 1=false:=hz 1 (by omega);have z2:rb 2=false:=hz 2 (by omega);have z3:rb 3=false:=hz 3 (by omega);rcases(Bool.eq_false_or_eq_true (rb 4)).symm with h0|h0
  .rw[h0] at c4
   (repeat (first|refine SW.seq ?_|refine SW.block ?_|refine SW.g1 bj Zm (Zq G4 gF) c4 ?_|refine SW.skip ?_|refine SW.exit ?_|refine SW.ret ?_|refine SW.ai rfl ?_|refine SW.an rfl ?_));exact⟨⟨5,by omega,λ j hj=>by
    rcases Nat.lt_succ_iff_lt_or_eq.1 hj with hj|rfl
    .exact hz j hj
    .exact h0⟩,id,by dsimp only;omega,aG.same (by simp) (by simp[aJ,List.lookup,SV.aC,SV.bS,SV.ok,l_]) hH (λ x hx=>hdrop _ x hx)⟩
  .rw[h0] at c4
   (repeat (first|refine SW.seq ?_|refine SW.block ?_|refine SW.g1 bj Zm (Zq G4 gF) c4 ?_|refine SW.skip ?_|refine SW.exit ?_|refine SW.ret ?_|refine SW.ai rfl ?_|refine SW.an rfl ?_));exact End.mk S.h0 (h4:=⟨by rw[if_neg (by rw[z0];simp)];rw[if_neg (by rw[z1];simp)];rw[if_neg (by rw[z2];simp)];rw[if_neg (by rw[z3];simp)];rw[if_pos h0];rfl,rfl⟩) (h6:=h6)
 | 5,_,hz=>
  have z0:rb 0=false:=hz 0 (by omega);have z1:rb 1=false:=hz 1 (by omega);have z2:rb 2=false:=hz 2 (by omega);have z3:rb 3=false:=hz 3 (by omega);have z4:rb 4=false:=hz 4 (by omega);rcases(Bool.eq_false_or_eq_true (rb 5)).symm with h0|h0
  .rw[h0] at c5
   (repeat (first|refine SW.seq ?_|refine SW.block ?_|refine SW.g1 bj Zm (Zq G5 gF) c5 ?_|refine SW.skip ?_|refine SW.exit ?_|refine SW.ret ?_|refine SW.ai rfl ?_|refine SW.an rfl ?_));exact⟨⟨6,by omega,λ j hj=>by
    rcases Nat.lt_succ_iff_lt_or_eq.1 hj with hj|rfl
    .exact hz j hj
    .exact h0⟩,id,by dsimp only;omega,aG.same (by simp) (by simp[aJ,List.lookup,SV.aC,SV.bS,SV.ok,l_]) hH (λ x hx=>hdrop _ x hx)⟩
  .rw[h0] at c5
   (repeat (first|refine SW.seq ?_|refine SW.block ?_|refine SW.g1 bj Zm (Zq G5 gF) c5 ?_|refine SW.skip ?_|refine SW.exit ?_|refine SW.ret ?_|refine SW.ai rfl ?_|refine SW.an rfl ?_));exact End.mk S.h0 (h4:=⟨by rw[if_neg (by rw[z0];simp)];rw[if_neg (by rw[z1];simp)];rw[if_neg (by rw[z2];simp)];rw[if_neg (by rw[z3];simp)];rw[if_neg (by rw[z4];simp)];rw[if_pos h0];rfl,rfl⟩) (h6:=h6)
 | 6,_,hz=>
  have z0:rb 0=false:=hz 0 (by omega);have z1:rb 1=false:=hz 1 (by omega);have z2:rb 2=false:=hz 2 (by omega);have z3:rb 3=false:=hz 3 (by omega);have z4:rb 4=false:=hz 4 (by omega);have z5:rb 5=false:=hz 5 (by omega);rcases(Bool.eq_false_or_eq_true (rb 6)).symm with h0|h0
  .rw[h0] at c6
   (repeat (first|refine SW.seq ?_|refine SW.block ?_|refine SW.g1 bj Zm (Zq G6 gF) c6 ?_|refine SW.skip ?_|refine SW.exit ?_|refine SW.ret ?_|refine SW.ai rfl ?_|refine SW.an rfl ?_));exact⟨⟨7,by omega,λ j hj=>by
    rcases Nat.lt_succ_iff_lt_or_eq.1 hj with hj|rfl
    .exact hz j hj
    .exact h0⟩,id,by dsimp only;omega,aG.same (by simp) (by simp[aJ,List.lookup,SV.aC,SV.bS,SV.ok,l_]) hH (λ x hx=>hdrop _ x hx)⟩
  .rw[h0] at c6
   (repeat (first|refine SW.seq ?_|refine SW.block ?_|refine SW.g1 bj Zm (Zq G6 gF) c6 ?_|refine SW.skip ?_|refine SW.exit ?_|refine SW.ret ?_|refine SW.ai rfl ?_|refine SW.an rfl ?_));exact End.mk S.h0 (h4:=⟨by rw[if_neg (by rw[z0];simp)];rw[if_neg (by rw[z1];simp)];rw[if_neg (by rw[z2];simp)];rw[if_neg (by rw[z3];simp)];rw[if_neg (by rw[z4];simp)];rw[if_neg (by rw[z5];simp)];rw[if_pos h0];rfl,rfl⟩) (h6:=h6)
 | 7,_,hz=>
  have z0:rb 0=false:=hz 0 (by omega);have z1:rb 1=false:=hz 1 (by omega);have z2:rb 2=false:=hz 2 (by omega);have z3:rb 3=false:=hz 3 (by omega);have z4:rb 4=false:=hz 4 (by omega);have z5:rb 5=false:=hz 5 (by omega);have z6:rb 6=false:=hz 6 (by omega);(repeat (first|refine SW.seq ?_|refine SW.block ?_|refine SW.g0 bj Zm aa ?_|refine SW.skip ?_|refine SW.exit ?_|refine SW.ret ?_|refine SW.ai rfl ?_|refine SW.an rfl ?_));exact End.mk S.h0 (h4:=⟨by rw[if_neg (by rw[z0];simp)];rw[if_neg (by rw[z1];simp)];rw[if_neg (by rw[z2];simp)];rw[if_neg (by rw[z3];simp)];rw[if_neg (by rw[z4];simp)];rw[if_neg (by rw[z5];simp)];rw[if_neg (by rw[z6];simp)];rfl,rfl⟩) (h6:=h6)
theorem JN (S:Sh)(o:ag)(hk:o.kind<256)(ab:Bool)(hT:∀ k,aH Tryz.prog shape_Shape_target.f [.ptr 0 0,.agg o.cells] S.h0 k 0 (bl (S.tgt o ab)) S.h0)(n:Sn)(hn:n.ok)(k:Nat):
  aH Tryz.prog shape_Shape_Why.f [.ptr n.b 0,.agg o.cells] (S.hp n) k 0 (i64 (S.why o ab)) (S.hp n):=
 S.at_ (JM S o hk ab hT) (λ ρ=>by simp[SV.aN,SV.aC,ag.aq]) (λ _=>rfl) n hn k
end
end
end Go.Proofs.YtaelhkkjgfobhaaGreat
