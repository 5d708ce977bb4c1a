/-
 Shapes: what a shape holds; which operation is before another one, carts, credentials.
-/
import Derived.Test.YtaelhkkjgfobhaaGreatUC
set_option linter.unusedSectionVars false
set_option linter.unusedVariables false
set_option linter.unusedSimpArgs false
namespace Go.Proofs.YtaelhkkjgfobhaaGreat
open Go.Sl Go.Proofs
section
def dv (d:Dt):SV:= .agg d.cells
theorem Ir (L:MM Dt Dt)(a:Dt):fP (ah Dt.cells dv L) (.agg (⟨0,0⟩:Dt).cells) (MM.idx L a)= .agg ((MM.get L a).getD ⟨0,0⟩).cells:=iR (vs:=dv) ⟨0,0⟩ L a
theorem Is (L:MM Dt Dt)(c:Nat)(a v:Dt):iZ (ah Dt.cells dv L) c (.agg a.cells) (.agg v.cells) (MM.idx L a)= .map (ah Dt.cells dv (MM.put L c a v)) (MM.jh L c a):=jC (vs:=dv) L c a v
theorem B5 (L:MM Dt ag)(c:Nat)(a:Dt)(v:ag):iZ (ah Dt.cells ov L) c (.agg a.cells) (.agg v.cells) (MM.idx L a)= .map (ah Dt.cells ov (MM.put L c a v)) (MM.jh L c a):=jC (vs:=ov) L c a v
theorem fG (ρ:Nat->Nat)(L:MM Dt Dt):(ah Dt.cells dv L).map (λ e=>(e.1,e.2.1.aA ρ,e.2.2.aA ρ))=ah Dt.cells dv L:=lB ρ L (λ a=>Dt.ax a ρ) (λ v=>by simp [dv,SV.aA,Dt.ax])
theorem jX (q:Nat->Bool)(L:MM Dt Dt):((ah Dt.cells dv L).all λ e=>e.2.1.ok q && e.2.2.ok q)=true:=nN q L (λ a=>Dt.aq a q) (λ v=>by simp [dv,SV.ok,Dt.aq])
structure Sh where
 ops:MM Dt ag
 co:Nat
 gj:MM Dt Int
 ca:Nat
 mI:MM Dt Dt
 cl:Nat
 tr:MM Dt Cr
 ct:Nat
 md:MM Dt ag
 cm:Nat
abbrev Sh.h0 (S:Sh):Hp:=[(0,.box 117 [.ptr 4 0,.mp 1,.mp 2,.mp 3]),(1,.map (ah Dt.cells ov S.ops) S.co),(2,.map (ah Dt.cells iv S.gj) S.ca),(3,.map (ah Dt.cells dv S.mI) S.cl),
 (4,.box 166 [.mp 5,.mp 6]),(5,.map (ah Dt.cells cv S.tr) S.ct),(6,.map (ah Dt.cells ov S.md) S.cm)]
abbrev Sh.T (S:Sh):Tr:=⟨4,5,6,S.tr,S.ct,S.md,S.cm⟩
theorem Sh.KU (S:Sh):S.T.sep:=⟨by show (5:Nat)≠4;decide,by show (6:Nat)≠4;decide,by show (5:Nat)≠6;decide⟩
theorem Sh.ok (S:Sh){k:Nat}(h:7<=k):S.h0.ok (λ n=>decide (n<k))=true:=by
 have a:=a_ (λ n=>decide (n<k)) S.ops;have b:=bB (λ n=>decide (n<k)) S.gj;have c:=jX (λ n=>decide (n<k)) S.mI;have d:=iG (λ n=>decide (n<k)) S.tr;have e:=a_ (λ n=>decide (n<k)) S.md;simp only [Hp.ok,List.all_cons,List.all_nil,Ob.ok,SV.ay,SV.ok,a,b,c,d,e,Bool.and_true,Bool.true_and,Bool.and_eq_true,decide_eq_true_eq];omega
def Sh.op (S:Sh)(d:Dt):ag:=(MM.get S.ops d).getD ag.zero
def Sh.cr (S:Sh)(d:Dt):Cr:=(MM.get S.tr d).getD Cr.zero
def Sh.uY (S:Sh)(d:Dt)(o:ag):Bool:=MM.has S.ops d && (S.op d).before o
def Sh.aK (S:Sh)(o:ag):Bool:=if o.kind=0 then decide (o.aK=o.dot) else MM.has S.ops o.aK && (decide ((S.op o.aK).kind=0) && (decide ((S.op o.aK).aK=(S.op o.aK).dot) && (S.op o.aK).before o))
def Sh.yx (S:Sh)(d:Dt)(o:ag):Bool:=MM.has S.tr d && (decide ((S.cr d).aK=o.aK) && S.uY d o)
def Sh.line (S:Sh)(d:Dt)(o:ag):Bool:=decide (0<(MM.get S.gj d).getD 0) && (decide ((S.op d).aK=o.aK) && S.uY d o)
def Sh.sW (S:Sh)(c:Cm)(o:ag):Bool:=S.line c.line o && (decide (c.jD=c.line) || (MM.has S.mI c.jD && (decide ((MM.get S.mI c.jD).getD ⟨0,0⟩=c.line) && S.uY c.jD o)))
section
attribute [local irreducible] SW RW aJ SC ai an
set_option maxHeartbeats 4000000 in
theorem It (S:Sh)(d:Dt)(o:ag):SB Tryz.prog shape_Shape_before.f [.ptr 0 0,.agg d.cells,.agg o.cells] S.h0 7 0 λ r F=>r=bl (S.uY d o)/\F=S.h0:=by
 refine shape_Shape_before.enter (by simp [SV.ay,SV.ok]) (S.ok (Nat.le_refl 7)) (by simp) ?_;dsimp only [shape_Shape_before.s,Co.M,Co.J,Co.H,Co.F,Co.C,Co.B,Co.bW,Co.T,Co.K,Co.E,Co.x,Co.W,Co.U,Co.D,Co.A,Co.S];obtain ⟨a,ha⟩:∃ a,(MM.get S.ops d).getD ag.zero=a:=⟨_,rfl⟩;have hb:=kP a o;refine SW.seq (SW.g0 [0,1,2,4,5,6,7,8] Zm af ?_);refine SW.seq ?_;rcases h:MM.has S.ops d with _ | _
 .refine SW.g0 [0,1,2,4,5,6,7,8] Zm (Zq h ha) ?_
  refine SW.seq (SW.g0 [0,1,2,4,5,6,7,8] Zm af ?_);refine SW.ret ?_;exact End.mk S.h0 (h4:=⟨by simp [fc,Sh.uY,h],rfl⟩) (h6:=S.ok (Nat.le_refl 7))
 .refine SW.g0 [0,1,2,4,5,6,7,8] Zm (Zq h ha) ?_
  refine SW.seq (SW.g1 [0,1,2,4,5,6,7,8] Zm af hb ?_);refine SW.ret ?_;exact End.mk S.h0 (h4:=⟨by simp [fc,Sh.uY,h,Sh.op,ha],rfl⟩) (h6:=S.ok (Nat.le_refl 7))
end
end
section
structure Sn where
 b:Nat
 o:Nat
 a:Nat
 l:Nat
 t:Nat
 x:Nat
 y:Nat
abbrev Sn.nl (n:Sn):List Nat:=[n.b,n.o,n.a,n.l,n.t,n.x,n.y]
abbrev Sn.ok (n:Sn):Prop:=n.nl.Nodup
def Sh.hp (S:Sh)(n:Sn):Hp:=[(n.b,.box 117 [.ptr n.t 0,.mp n.o,.mp n.a,.mp n.l]),(n.o,.map (ah Dt.cells ov S.ops) S.co),(n.a,.map (ah Dt.cells iv S.gj) S.ca),(n.l,.map (ah Dt.cells dv S.mI) S.cl),
 (n.t,.box 166 [.mp n.x,.mp n.y]),(n.x,.map (ah Dt.cells cv S.tr) S.ct),(n.y,.map (ah Dt.cells ov S.md) S.cm)]
theorem Sh.Fi (S:Sh)(n:Sn)(k:Nat):Hp.aA (ff n.nl k) S.h0=S.hp n:=by
 simp only [Hp.aA,List.map_cons,List.map_nil,Ob.aA,SV.aQ,SV.aA,dV,bA,fG,cM,Sh.hp];rfl
theorem Sh.Fj (S:Sh):∀ i,i<7->lk S.h0 i≠none:=λ i hi=>by
 rcases (show i=0\/i=1\/i=2\/i=3\/i=4\/i=5\/i=6 by omega) with rfl | rfl | rfl | rfl | rfl | rfl | rfl <;> simp [aa]
theorem Sh.at_ (S:Sh){f:FuncId}{args:List SV}{r:SV}(h:SB Tryz.prog f (.ptr 0 0::args) S.h0 7 0 λ x F=>x=r/\F=S.h0)(ha:∀ ρ,SV.aQ ρ args=args)(hr:∀ ρ,r.aA ρ=r)(n:Sn)(hn:n.ok)(k:Nat):
  aJ Tryz.prog f (.ptr n.b 0::args) (S.hp n) k 0 r (S.hp n):=by
 have:=SB.nM n.nl h hn S.Fj k;rw [S.Fi,hr] at this;simp only [SV.aQ,SV.aA,ha] at this;exact this
abbrev n0:Sn:=⟨0,1,2,3,4,5,6⟩
theorem rD:n0.ok:=by decide
theorem Iu (S:Sh)(d:Dt)(o:ag)(n:Sn)(hn:n.ok)(k:Nat):aJ Tryz.prog shape_Shape_before.f [.ptr n.b 0,.agg d.cells,.agg o.cells] (S.hp n) k 0 (bl (S.uY d o)) (S.hp n):=S.at_ (It S d o) (λ ρ=>by simp [SV.aQ,SV.aA,Dt.ax,ag.ax]) (λ _=>rfl) n hn k
theorem A1 (S:Sh)(d:Dt)(o:ag)(k:Nat):aJ Tryz.prog shape_Shape_before.f [.ptr 0 0,.agg d.cells,.agg o.cells] S.h0 k 0 (bl (S.uY d o)) S.h0:=Iu S d o n0 rD k
abbrev Sh.h4 (S:Sh):Hp:=[(4,.box 166 [.mp 5,.mp 6]),(5,.map (ah Dt.cells cv S.tr) S.ct),(6,.map (ah Dt.cells ov S.md) S.cm)]
theorem KV (S:Sh)(d:Dt)(k:Nat):aJ Tryz.prog tree_Tree_Get.f [.ptr 4 0,.agg d.cells] S.h4 k 3 (.eu [.agg (S.cr d).cells,i64 (if MM.has S.tr d then 0 else 7)]) S.h4:=get_at S.KU d k
section
attribute [local irreducible] SW RW aJ SC ai an
set_option maxHeartbeats 4000000 in
theorem Fk (S:Sh)(o:ag):SB Tryz.prog shape_Shape_cart.f [.ptr 0 0,.agg o.cells] S.h0 7 0 λ r F=>r=bl (S.aK o)/\F=S.h0:=by
 refine shape_Shape_cart.enter (by simp [SV.ay,SV.ok]) (S.ok (Nat.le_refl 7)) (by simp) ?_;dsimp only [shape_Shape_cart.s,Co.M,Co.J,Co.H,Co.F,Co.C,Co.B,Co.b8,Co.bW,Co.T,Co.K,Co.E,Co.x,Co.W,Co.U,Co.D,Co.A,Co.S];obtain ⟨g,hg⟩:∃ g,(MM.get S.ops o.aK).getD ag.zero=g:=⟨_,rfl⟩;have hS:S.aK o=if o.kind=0 then decide (o.aK=o.dot) else MM.has S.ops o.aK && (decide (g.kind=0) && (decide (g.aK=g.dot) && g.before o)):=by unfold Sh.aK Sh.op;rw [hg]
 have hb:=kP g o;refine SW.seq (SW.g0 [0,1,3,4,5,6,19] Zm af ?_);refine SW.seq (SW.g0 [0,1,3,4,5,6,19] Zm hg ?_);refine SW.seq (SW.seq ?_)
 by_cases hk:o.kind=0
 .have k1:(((o.kind:Nat):Int) == 0)=true:=by rw [hk];rfl
  refine SW.g0 [0,1,3,4,5,6,19] Zm k1 ?_;refine SW.aj rfl (SW.seq ?_);rw [if_pos hk] at hS;rcases h:decide (o.aK=o.dot) with _ | _
  .refine SW.g0 [0,1,3,4,5,6,19] Zm h ?_
   refine SW.ret ?_;exact End.mk S.h0 (h4:=⟨by rw [hS,h];rfl,rfl⟩) (h6:=S.ok (Nat.le_refl 7))
  .refine SW.g0 [0,1,3,4,5,6,19] Zm h ?_
   refine SW.ret ?_;exact End.mk S.h0 (h4:=⟨by rw [hS,h];rfl,rfl⟩) (h6:=S.ok (Nat.le_refl 7))
 have k1:(((o.kind:Nat):Int) == 0)=false:=by simp;omega
 rw [if_neg hk] at hS;refine SW.g0 [0,1,3,4,5,6,19] Zm k1 ?_;refine SW.au rfl (SW.skip (SW.seq ?_));rcases h1:MM.has S.ops o.aK with _ | _
 .refine SW.g0 [0,1,3,4,5,6,19] Zm h1 ?_
  refine SW.ret ?_;exact End.mk S.h0 (h4:=⟨by rw [hS,h1];rfl,rfl⟩) (h6:=S.ok (Nat.le_refl 7))
 rcases h2:(((g.kind:Nat):Int) == 0) with _ | _
 .have e2:decide (g.kind=0)=false:=by simp at h2 ⊢;omega
  refine SW.g0 [0,1,3,4,5,6,19] Zm (Zq h1 h2) ?_;refine SW.ret ?_;exact End.mk S.h0 (h4:=⟨by rw [hS,h1,e2];rfl,rfl⟩) (h6:=S.ok (Nat.le_refl 7))
 have e2:decide (g.kind=0)=true:=by simp at h2 ⊢;omega
 rcases h3:decide (g.aK=g.dot) with _ | _
 .refine SW.g0 [0,1,3,4,5,6,19] Zm (Zq h1 (Zq h2 h3)) ?_
  refine SW.ret ?_;exact End.mk S.h0 (h4:=⟨by rw [hS,h1,e2,h3];rfl,rfl⟩) (h6:=S.ok (Nat.le_refl 7))
 .refine SW.g1 [0,1,3,4,5,6,19] Zm (Zq h1 (Zq h2 h3)) hb ?_
  refine SW.ret ?_;exact End.mk S.h0 (h4:=⟨by rw [hS,h1,e2,h3];simp [fc],rfl⟩) (h6:=S.ok (Nat.le_refl 7))
set_option maxHeartbeats 4000000 in
theorem Fl (S:Sh)(d:Dt)(o:ag):SB Tryz.prog shape_Shape_cred.f [.ptr 0 0,.agg d.cells,.agg o.cells] S.h0 7 0 λ r F=>r= .eu [.agg (S.cr d).cells,bl (S.yx d o)]/\F=S.h0:=by
 refine shape_Shape_cred.enter (by simp [SV.ay,SV.ok]) (S.ok (Nat.le_refl 7)) (by simp) ?_;dsimp only [shape_Shape_cred.s,Co.M,Co.G,Co.J,Co.H,Co.F,Co.C,Co.B,Co.b8,Co.aB,Co.bN,Co.i6,Co.T,Co.K,Co.E,Co.Q,Co.x,Co.W,Co.Y,Co.U,Co.D,Co.A,Co.S];have hc:=KV S d;have hb:=A1 S d o;obtain ⟨c,hcc⟩:∃ c,S.cr d=c:=⟨_,rfl⟩;have hS:S.yx d o=(MM.has S.tr d && (decide (c.aK=o.aK) && S.uY d o)):=by unfold Sh.yx;rw [hcc]
 rw [hcc] at hc ⊢;refine SW.seq (SW.g0 [0,1,2,4,5,6,7,8,9] Zm af ?_);refine SW.seq ?_;rcases h1:MM.has S.tr d with _ | _
 .simp only [h1,Bool.false_eq_true,if_false] at hc
  refine SW.g1 [0,1,2,4,5,6,7,8,9] Zm af hc ?_;refine SW.seq (SW.g0 [0,1,2,4,5,6,7,8,9] Zm af ?_);refine SW.ret ?_;exact End.mk S.h0 (h4:=⟨by rw [hS,h1];rfl,rfl⟩) (h6:=S.ok (Nat.le_refl 7))
 simp only [h1,if_true] at hc;refine SW.g1 [0,1,2,4,5,6,7,8,9] Zm af hc ?_;refine SW.seq ?_;rcases h2:decide (c.aK=o.aK) with _ | _
 .refine SW.g0 [0,1,2,4,5,6,7,8,9] Zm h2 ?_
  refine SW.ret ?_;exact End.mk S.h0 (h4:=⟨by rw [hS,h1,h2];rfl,rfl⟩) (h6:=S.ok (Nat.le_refl 7))
 .refine SW.g1 [0,1,2,4,5,6,7,8,9] Zm h2 hb ?_
  refine SW.ret ?_;exact End.mk S.h0 (h4:=⟨by rw [hS,h1,h2];simp [fc],rfl⟩) (h6:=S.ok (Nat.le_refl 7))
end
end
section
def _root_.Go.Sl.Cm.sv (c:Cm):List SV:=c.line.cells++c.jD.cells
section
variable (c:Cm)
theorem _root_.Go.Sl.Cm.s0:List.take 2 c.sv=c.line.cells:=rfl
theorem _root_.Go.Sl.Cm.s2:List.take 2 (List.drop 2 c.sv)=c.jD.cells:=rfl
theorem _root_.Go.Sl.Cm.BG:c.sv.length=4:=rfl
theorem _root_.Go.Sl.Cm.JU:c.sv.all SV.dJ=true:=rfl
@[simp] theorem _root_.Go.Sl.Cm.Pv (q:Nat->Bool):SV.ay q c.sv=true:=rfl
@[simp] theorem _root_.Go.Sl.Cm.MY (ρ:Nat->Nat):SV.aQ ρ c.sv=c.sv:=rfl
theorem _root_.Go.Sl.Cm.Ee (a b:Dt):a.cells++b.cells=(⟨a,b⟩:Cm).sv:=rfl
end
def j9 (k:Nat):Nat:=([0,1,1,2,2,2,4,4,2]:List Nat).getD k 0
section
attribute [local irreducible] SW RW aJ SC ai an Cm.sv
set_option maxHeartbeats 4000000 in
theorem Fm (S:Sh)(d:Dt)(o:ag):SB Tryz.prog shape_Shape_line.f [.ptr 0 0,.agg d.cells,.agg o.cells] S.h0 7 0 λ r F=>r=bl (S.line d o)/\F=S.h0:=by
 refine shape_Shape_line.enter (by simp [SV.ay,SV.ok]) (S.ok (Nat.le_refl 7)) (by simp) ?_;dsimp only [shape_Shape_line.s,Co.M,Co.G,Co.J,Co.H,Co.F,Co.C,Co.B,Co.i6,Co.bW,Co.T,Co.K,Co.x,Co.Y,Co.U,Co.D,Co.A,Co.S];obtain ⟨g,hg⟩:∃ g,(MM.get S.ops d).getD ag.zero=g:=⟨_,rfl⟩;have hS:S.line d o=(decide (0<(MM.get S.gj d).getD 0) && (decide (g.aK=o.aK) && S.uY d o)):=by unfold Sh.line Sh.op;rw [hg]
 have hb:=A1 S d o;refine SW.seq (SW.g0 [0,1,2,4,5,6] Zm af ?_);refine SW.seq ?_;rcases h1:decide (0<(MM.get S.gj d).getD 0) with _ | _
 .have g1:decide ((MM.get S.gj d).getD 0>0)=false:=h1
  refine SW.g0 [0,1,2,4,5,6] Zm g1 ?_;refine SW.ret ?_;exact End.mk S.h0 (h4:=⟨by rw [hS,h1];rfl,rfl⟩) (h6:=S.ok (Nat.le_refl 7))
 have g1:decide ((MM.get S.gj d).getD 0>0)=true:=h1;rcases h2:decide (g.aK=o.aK) with _ | _
 .refine SW.g0 [0,1,2,4,5,6] Zm (Zq g1 (Zq hg h2)) ?_
  refine SW.ret ?_;exact End.mk S.h0 (h4:=⟨by rw [hS,h1,h2];rfl,rfl⟩) (h6:=S.ok (Nat.le_refl 7))
 .refine SW.g1 [0,1,2,4,5,6] Zm (Zq g1 (Zq hg h2)) hb ?_
  refine SW.ret ?_;exact End.mk S.h0 (h4:=⟨by rw [hS,h1,h2];simp [fc],rfl⟩) (h6:=S.ok (Nat.le_refl 7))
theorem B6 (S:Sh)(d:Dt)(o:ag)(k:Nat):aJ Tryz.prog shape_Shape_line.f [.ptr 0 0,.agg d.cells,.agg o.cells] S.h0 k 0 (bl (S.line d o)) S.h0:=
 S.at_ (Fm S d o) (λ ρ=>by simp [SV.aQ,SV.aA,Dt.ax,ag.ax]) (λ _=>rfl) n0 rD k
set_option maxHeartbeats 4000000 in
theorem Iv (S:Sh)(c:Cm)(o:ag):SB Tryz.prog shape_Shape_claim.f [.ptr 0 0,.agg c.sv,.agg o.cells] S.h0 7 0 λ r F=>r=bl (S.sW c o)/\F=S.h0:=by
 refine shape_Shape_claim.enter (by simp [SV.ay,SV.ok]) (S.ok (Nat.le_refl 7)) (by simp) ?_;dsimp only [shape_Shape_claim.s,Co.M,Co.G,Co.J,Co.H,Co.F,Co.C,Co.B,Co.b8,Co.aB,Co.T,Co.K,Co.E,Co.R,Co.x,Co.W,Co.U,Co.D,Co.A,Co.S];have c0:=c.s0;have c2:=c.s2;have cl:=c.BG;have c1:=c.JU;obtain ⟨v,hv⟩:∃ v,(MM.get S.mI c.jD).getD ⟨0,0⟩=v:=⟨_,rfl⟩;have hS:S.sW c o=(S.line c.line o && (decide (c.jD=c.line) || (MM.has S.mI c.jD && (decide (v=c.line) && S.uY c.jD o)))):=by unfold Sh.sW;rw [hv]
 have hl:=B6 S c.line o;have hb:=A1 S c.jD o;have lkd:=Ir S.mI c.jD;refine SW.seq (SW.g0 [0,1,2,4,5,6,7,8] Zm c1 ?_);refine SW.seq (SW.g0 [0,1,2,4,5,6,7,8] Zm (Zq c0 (Zq c2 (Zq cl (Zq lkd hv)))) ?_);refine SW.seq ?_;rcases h1:S.line c.line o with _ | _
 .rw [h1] at hl
  refine SW.g2 [0,1,2,4,5,6,7,8] Zm (Zq c0 (Zq c2 cl)) hl hb ?_;refine SW.ret ?_;exact End.mk S.h0 (h4:=⟨by rw [hS,h1];rfl,rfl⟩) (h6:=S.ok (Nat.le_refl 7))
 rw [h1] at hl;rcases h2:decide (c.jD=c.line) with _ | _
 rotate_left
 .refine SW.g2 [0,1,2,4,5,6,7,8] Zm (Zq c0 (Zq c2 (Zq cl h2))) hl hb ?_
  refine SW.ret ?_;exact End.mk S.h0 (h4:=⟨by rw [hS,h1,h2];rfl,rfl⟩) (h6:=S.ok (Nat.le_refl 7))
 rcases h3:MM.has S.mI c.jD with _ | _
 .refine SW.g2 [0,1,2,4,5,6,7,8] Zm (Zq c0 (Zq c2 (Zq cl (Zq h2 h3)))) hl hb ?_
  refine SW.ret ?_;exact End.mk S.h0 (h4:=⟨by rw [hS,h1,h2,h3];rfl,rfl⟩) (h6:=S.ok (Nat.le_refl 7))
 rcases h4:decide (v=c.line) with _ | _
 .refine SW.g2 [0,1,2,4,5,6,7,8] Zm (Zq c0 (Zq c2 (Zq cl (Zq h2 (Zq h3 h4))))) hl hb ?_
  refine SW.ret ?_;exact End.mk S.h0 (h4:=⟨by rw [hS,h1,h2,h3,h4];rfl,rfl⟩) (h6:=S.ok (Nat.le_refl 7))
 .refine SW.g2 [0,1,2,4,5,6,7,8] Zm (Zq c0 (Zq c2 (Zq cl (Zq h2 (Zq h3 h4))))) hl hb ?_
  refine SW.ret ?_;exact End.mk S.h0 (h4:=⟨by rw [hS,h1,h2,h3,h4];simp [fc],rfl⟩) (h6:=S.ok (Nat.le_refl 7))
theorem Fo (S:Sh)(c:Cm)(o:ag)(k:Nat):aJ Tryz.prog shape_Shape_claim.f [.ptr 0 0,.agg c.sv,.agg o.cells] S.h0 k 0 (bl (S.sW c o)) S.h0:=
 S.at_ (Iv S c o) (λ ρ=>by simp [SV.aQ,SV.aA,ag.ax]) (λ _=>rfl) n0 rD k
theorem Fp (k:Nat)(hk:k<256):Go.Sl.Pure Tryz.prog shape_Needs.f [u8 k] (.d (.int .u8 (j9 k))):=by
 refine shape_Needs.enter (by first | rfl | simp [SV.ok,SV.ay]) (by first | rfl | simp [Hp.ok,Ob.ok,SV.ok,SV.ay,aD.aq]) (by simp) ?_;dsimp only [shape_Needs.s,Co.M,Co.J,Co.F,Co.b8,Co.T,Co.W,Co.Y,Co.S];refine SW.seq (SW.g0 [0,2,3,7] Zm af ?_);refine SW.seq ?_;have hb:cG (cG (cG (cG (cG (cG (cG (cG [SV.d (.int .u8 0),.d (.int .u8 0),.d (.int .u8 0),.d (.int .u8 0),.d (.int .u8 0),.d (.int .u8 0),.d (.int .u8 0),.d (.int .u8 0),.d (.int .u8 0)] 1 [.d (.int .u8 1)]) 2 [.d (.int .u8 1)]) 3 [.d (.int .u8 2)]) 4 [.d (.int .u8 2)]) 5 [.d (.int .u8 2)]) 6 [.d (.int .u8 4)]) 7 [.d (.int .u8 4)]) 8 [.d (.int .u8 2)]=[.d (.int .u8 0),.d (.int .u8 1),.d (.int .u8 1),.d (.int .u8 2),.d (.int .u8 2),.d (.int .u8 2),.d (.int .u8 4),.d (.int .u8 4),.d (.int .u8 2)]:=rfl;have Hy:∀ z:List SV,z.length=9->cG z 0 [SV.d (.int .u8 0),.d (.int .u8 1),.d (.int .u8 1),.d (.int .u8 2),.d (.int .u8 2),.d (.int .u8 2),.d (.int .u8 4),.d (.int .u8 4),.d (.int .u8 2)]=[.d (.int .u8 0),.d (.int .u8 1),.d (.int .u8 1),.d (.int .u8 2),.d (.int .u8 2),.d (.int .u8 2),.d (.int .u8 4),.d (.int .u8 4),.d (.int .u8 2)]:=λ z hz=>by
  match z,hz with
  | [_,_,_,_,_,_,_,_,_],_=>rfl
 have hb3:=Hy [SV.d (.int .u8 0),.d (.int .u8 0),.d (.int .u8 0),.d (.int .u8 0),.d (.int .u8 0),.d (.int .u8 0),.d (.int .u8 0),.d (.int .u8 0),.d (.int .u8 0)] rfl;refine SW.g0 [0,2,3,7] Zm (Zq hb hb3) ?_;have e8:IntKind.i64.wrap (k:Int)=(k:Int):=wrap_i64 _ (by omega);refine SW.seq (SW.seq ?_)
 by_cases h:k<9
 .have h1:decide ((k:Int)>=9)=false:=by simp only [decide_eq_false_iff_not];omega
  refine SW.g0 [0,2,3,7] Zm (Zq e8 h1) ?_;refine SW.au rfl (SW.skip (SW.seq ?_));have hg:([SV.d (.int .u8 0),.d (.int .u8 1),.d (.int .u8 1),.d (.int .u8 2),.d (.int .u8 2),.d (.int .u8 2),.d (.int .u8 4),.d (.int .u8 4),.d (.int .u8 2)]:List SV)[k]? =some (.d (.int .u8 (j9 k))):=by
   match k,h with
   | 0,_ | 1,_ | 2,_ | 3,_ | 4,_ | 5,_ | 6,_ | 7,_ | 8,_=>rfl
  refine SW.g0 [0,2,3,7] Zm hg ?_;refine SW.ret ?_;exact End.mk [] (h4:=⟨rfl,rfl⟩)
 .have h1:decide ((k:Int)>=9)=true:=by simp only [decide_eq_true_eq];omega
  have e:j9 k=0:=by unfold j9;simp [List.getD];rw [List.getElem?_eq_none (by simp;omega)];rfl
  rw [e];refine SW.g0 [0,2,3,7] Zm (Zq e8 h1) ?_;refine SW.aj rfl (SW.seq (SW.g0 [0,2,3,7] Zm af ?_));refine SW.ret ?_;exact End.mk [] (h4:=⟨rfl,rfl⟩)
theorem Fq (k:Nat)(hk:k<256)(j:Nat):aJ Tryz.prog shape_Needs.f [u8 k] [] j 0 (.d (.int .u8 (j9 k))) []:=(Fp k hk).sc rfl j
end
end
section
theorem uj {l:List Cm}{i:Nat}{x:Cm}(h:l[i]? =some x):List.take 4 (List.drop (i*4) (List.map SV.d (l.flatMap Cm.ds)))=x.sv:=by
 rw [<- List.map_drop,<- List.map_take,jr Cm.ds 4 (λ _=>rfl) l i x h];rfl
theorem xy {l:List Cm}{i:Nat}{x:Cm}(h:l[i]? =some x):(i*4+4<=(List.map SV.d (l.flatMap Cm.ds)).length)=True:=eq_true (by
 rw [List.length_map,yf];have:=(List.getElem?_eq_some_iff.1 h).1;omega)
def yy (p:Cm->Bool)(l:List Cm):Int:=match l.findIdx? p with
 | some i=>i
 | none=> -1
theorem Fs {p:Cm->Bool}:∀ {l:List Cm} {i:Nat} {x:Cm},(∀ y,y∈l.take i->p y=false)->l[i]? =some x->p x=true->yy p l=i:=by
 intro l i x h1 h2 h3;have:l.findIdx? p=some i:=by
  rw [List.findIdx?_eq_some_iff_getElem];obtain ⟨hi,e⟩:=List.getElem?_eq_some_iff.1 h2;refine ⟨hi,by rw [e];exact h3,λ j hj=> ?_⟩;have:=h1 l[j] (List.mem_take_iff_getElem.2 ⟨j,by omega,rfl⟩);simp [this]
 unfold yy;rw [this]
theorem C_ {p:Cm->Bool}{l:List Cm}(h:∀ y,y∈l->p y=false):yy p l= -1:=by
 have:l.findIdx? p=none:=by rw [List.findIdx?_eq_none_iff];exact h
 unfold yy;rw [this]
theorem Ft (p:Cm->Bool)(l:List Cm):decide (yy p l>=0)=l.any p:=by
 unfold yy;cases h:l.findIdx? p with
 | none=>
  have h1:=List.findIdx?_eq_none_iff.1 h;have:l.any p=false:=by rw [List.any_eq_false];intro x hx;rw [h1 x hx];simp
  rw [this];rfl
 | some i=>
  obtain ⟨hi,h2,_⟩:=List.findIdx?_eq_some_iff_getElem.1 h;have:l.any p=true:=by rw [List.any_eq_true];exact ⟨_,List.getElem_mem hi,h2⟩
  rw [this];simp
abbrev Sh.ht (S:Sh)(o:ag):Hp:=(8,.box 43 o.cells)::(7,.box 29 [.ptr 0 0])::S.h0
theorem Sh.jo (S:Sh)(o:ag){k:Nat}(h:9<=k):(S.ht o).ok (λ n=>decide (n<k))=true:=by
 have:=S.ok (k:=k) (by omega);simp only [Sh.ht,Hp.ok,List.all_cons,Ob.ok,ag.aq,SV.ay,SV.ok,Bool.and_true,Bool.and_eq_true,decide_eq_true_eq] at this ⊢;exact ⟨by omega,⟨by omega,by omega⟩,this⟩
theorem Sh.KW (S:Sh)(o:ag)(k:Nat):Hp.aA (ff [0,1,2,3,4,5,6,7,8] k) (S.ht o)=S.ht o:=by
 simp only [Hp.aA,List.map_cons,List.map_nil,Ob.aA,SV.aQ,SV.aA,dV,bA,fG,cM,ag.ax];rfl
theorem Sh.MZ (S:Sh)(o:ag):∀ i,i<9->lk (S.ht o) i≠none:=λ i hi=>by
 rcases (show i=0\/i=1\/i=2\/i=3\/i=4\/i=5\/i=6\/i=7\/i=8 by omega) with rfl | rfl | rfl | rfl | rfl | rfl | rfl | rfl | rfl <;> simp [aa]
theorem Sh.Ma (S:Sh)(o:ag){f:FuncId}{args:List SV}{r:SV}(h:SB Tryz.prog f args (S.ht o) 9 0 λ x F=>x=r/\F=S.ht o)(k:Nat)(ha:SV.aQ (ff [0,1,2,3,4,5,6,7,8] k) args=args)(hr:∀ ρ,r.aA ρ=r):
  aJ Tryz.prog f args (S.ht o) k 0 r (S.ht o):=by
 have:=SB.nM [0,1,2,3,4,5,6,7,8] h (by decide) (S.MZ o) k;rw [S.KW,ha,hr] at this;exact this
def Sh.tgt (S:Sh)(o:ag)(ab:Bool):Bool:=
 if o.kind=2 then S.yx o.at_ o && ab else if o.kind=4\/o.kind=5 then S.line o.at_ o else if o.kind=6\/o.kind=7 then S.sW ⟨o.at_,o.jD⟩ o else if o.kind=8 then !(o.cl.any λ c=> !S.sW c o) else true
section
attribute [local irreducible] SW RW aJ SC ai an Cm.sv
set_option maxHeartbeats 4000000 in
theorem Iw (S:Sh)(o:ag)(c:Cm):SB Tryz.prog shape_Shape_target_1.f [.agg c.sv,.ptr 7 0,.ptr 8 0] (S.ht o) 9 0 λ r F=>r=bl (!S.sW c o)/\F=S.ht o:=by
 refine shape_Shape_target_1.enter (by simp [SV.ay,SV.ok]) (S.jo o (Nat.le_refl 9)) (by simp) ?_;dsimp only [shape_Shape_target_1.s,Co.M,Co.J,Co.F,Co.B,Co.T,Co.K,Co.R,Co.x,Co.O,Co.S];have c1:=c.JU;have cl:=c.BG;have c4:List.take 4 c.sv=c.sv:=by rw [<- cl];exact List.take_length
 have hc:=Fo S c o;refine SW.seq (SW.g0 [0,1,2,3,4] Zm c1 ?_);refine SW.seq ?_;rcases h:S.sW c o with _ | _ <;> rw [h] at hc
 .refine SW.g1 [0,1,2,3,4] Zm (Zq cl c4) hc ?_
  refine SW.ret ?_;exact End.mk (S.ht o) (h4:=⟨rfl,rfl⟩) (h6:=S.jo o (Nat.le_refl 9))
 .refine SW.g1 [0,1,2,3,4] Zm (Zq cl c4) hc ?_
  refine SW.ret ?_;exact End.mk (S.ht o) (h4:=⟨rfl,rfl⟩) (h6:=S.jo o (Nat.le_refl 9))
theorem Iy (S:Sh)(o:ag)(c:Cm)(k:Nat):aJ Tryz.prog shape_Shape_target_1.f [.agg c.sv,.ptr 7 0,.ptr 8 0] (S.ht o) k 0 (bl (!S.sW c o)) (S.ht o):=
 S.Ma o (Iw S o c) k (by simp only [SV.aQ,SV.aA,Cm.MY];rfl) (λ _=>rfl)
set_option maxHeartbeats 4000000 in
theorem Iz (S:Sh)(o:ag)(l:List Cm)(hl:l.length<=9223372036854775807):SB Tryz.prog slices_IndexFunc_Lapi_Claim_api_Claim.f [.d (.sl l.length (l.flatMap Cm.ds)),.fn (.func shape_Shape_target_1.f) [] [.ptr 7 0,.ptr 8 0]] (S.ht o) 9 0 λ r F=>r= .d (.int .i64 (yy (λ c=> !S.sW c o) l))/\F=S.ht o:=by
 refine slices_IndexFunc_Lapi_Claim_api_Claim.enter (by simp [SV.ay,SV.ok]) (S.jo o (Nat.le_refl 9)) (by simp) ?_;dsimp only [slices_IndexFunc_Lapi_Claim_api_Claim.s,Co.M,Co.J,Co.F,Co.Z,Co.K,Co.L,Co.Y,Co.V,Co.I,Co.S];refine SW.seq (SW.g0 [0,1,4,5,7,8,9,16] Zm af ?_);refine SW.seq (SW.seq (SW.g0 [0,1,4,5,7,8,9,16] Zm af ?_));have nd:((S.ht o).map (·.1)).Nodup:=by simp
 refine SW.block (SW.loop (α:={i:Nat // i<=l.length/\∀ y,y∈l.take i->(!S.sW y o)=false}) (λ i=>⟨[(8,i64 i.1),(7,i64 l.length),(0,.d (.sl l.length (l.flatMap Cm.ds))),(1,.fn (.func shape_Shape_target_1.f) [] [.ptr 7 0,.ptr 8 0]),(4,.d (.int .i64 0))],S.ht o,9⟩) (λ i=>l.length - i.1) ⟨0,by omega,by simp⟩ id ?_ ?_)
 .exact aI.same (by simp) (by simp [aL,List.lookup,SV.aA,SV.aQ,SV.ok,SV.ay]) (S.jo o (Nat.le_refl 9)) (aH nd)
 rintro ⟨i,hi,hall⟩;dsimp only
 by_cases h:i<l.length
 .have h1:decide ((i:Int)<l.length)=true:=by simp only [decide_eq_true_eq];omega
  obtain ⟨x,hx⟩:=aZ h;have e2:IntKind.i64.wrap ((i:Int)+1)=((i+1:Nat):Int):=wrap_i64 _ (by omega);have hc:=Iy S o x;refine SW.seq (SW.g0 [0,1,4,5,7,8,9,16] Zm h1 ?_);refine SW.seq (SW.aj rfl (SW.skip (SW.seq (SW.block (SW.seq (SW.g0 [0,1,4,5,7,8,9,16] Zm af ?_))))));refine SW.seq ?_;rcases h2:S.sW x o with _ | _ <;> rw [h2] at hc
  .refine SW.g1 [0,1,4,5,7,8,9,16] Zm (Zq (uj hx) (xy hx)) hc ?_
   refine SW.aj rfl (SW.seq (SW.g0 [0,1,4,5,7,8,9,16] Zm af ?_));refine SW.ret ?_;exact End.mk (S.ht o) (h4:=⟨by rw [Fs hall hx (by rw [h2];rfl)];rfl,rfl⟩) (h6:=S.jo o (Nat.le_refl 9))
  ·
   refine SW.g1 [0,1,4,5,7,8,9,16] Zm (Zq (uj hx) (xy hx)) hc ?_;refine SW.au rfl (SW.skip (SW.g0 [0,1,4,5,7,8,9,16] Zm e2 ?_));exact ⟨⟨i+1,by omega,λ y hy=>by rw [dB hx,List.mem_append,List.mem_singleton] at hy;exact hy.elim (hall y) λ e=>by rw [e,h2];rfl⟩,id,by simp;omega,aI.same (by simp) (by simp [aL,List.lookup,SV.aA,SV.aQ,SV.ok,SV.ay]) (S.jo o (Nat.le_refl 9)) (aH nd)⟩
 .have h1:decide ((i:Int)<l.length)=false:=by simp only [decide_eq_false_iff_not];omega
  have hi2:i=l.length:=by omega
  subst hi2;rw [List.take_length] at hall;refine SW.seq (SW.g0 [0,1,4,5,7,8,9,16] Zm h1 ?_);refine SW.seq (SW.au rfl (SW.exit ?_));refine (?_:Sl.SW _ _ _ _ _ _);refine SW.seq (SW.g0 [0,1,4,5,7,8,9,16] Zm af ?_);refine SW.ret ?_;exact End.mk (S.ht o) (h4:=⟨by rw [C_ hall];rfl,rfl⟩) (h6:=S.jo o (Nat.le_refl 9))
end
end
section
section
attribute [local irreducible] SW RW aJ SC ai an Cm.sv
theorem IA (S:Sh)(o:ag)(l:List Cm)(hl:l.length<=9223372036854775807)(k:Nat):aJ Tryz.prog slices_IndexFunc_Lapi_Claim_api_Claim.f [.d (.sl l.length (l.flatMap Cm.ds)),.fn (.func 175) [] [.ptr 7 0,.ptr 8 0]] (S.ht o) k 0 (.d (.int .i64 (yy (λ c=> !S.sW c o) l))) (S.ht o):=
 S.Ma o (Iz S o l hl) k rfl (λ _=>rfl)
set_option maxHeartbeats 4000000 in
theorem Fu (S:Sh)(o:ag)(l:List Cm)(hl:l.length<=9223372036854775807):SB Tryz.prog slices_ContainsFunc_Lapi_Claim_api_Claim.f [.d (.sl l.length (l.flatMap Cm.ds)),.fn (.func 175) [] [.ptr 7 0,.ptr 8 0]] (S.ht o) 9 0 λ r F=>r=bl (l.any λ c=> !S.sW c o)/\F=S.ht o:=by
 refine slices_ContainsFunc_Lapi_Claim_api_Claim.enter (by simp [SV.ay,SV.ok]) (S.jo o (Nat.le_refl 9)) (by simp) ?_;dsimp only [slices_ContainsFunc_Lapi_Claim_api_Claim.s,Co.M,Co.J,Co.F,Co.B,Co.Q,Co.Y,Co.S];have hc:=IA S o l hl;have ha:=Ft (λ c=> !S.sW c o) l;obtain ⟨z,hz⟩:∃ z,yy (λ c=> !S.sW c o) l=z:=⟨_,rfl⟩;obtain ⟨b,hb⟩:∃ b,(l.any λ c=> !S.sW c o)=b:=⟨_,rfl⟩;rw [hz,hb] at ha;rw [hz] at hc;rw [hb];refine SW.seq (SW.g0 [0,1,4] Zm af ?_);refine SW.seq (SW.g1 [0,1,4] Zm ha hc ?_);refine SW.ret ?_;exact End.mk (S.ht o) (h4:=⟨rfl,rfl⟩) (h6:=S.jo o (Nat.le_refl 9))
theorem Fv (S:Sh)(o:ag)(l:List Cm)(hl:l.length<=9223372036854775807)(k:Nat):aJ Tryz.prog slices_ContainsFunc_Lapi_Claim_api_Claim.f [.d (.sl l.length (l.flatMap Cm.ds)),.fn (.func 175) [] [.ptr 7 0,.ptr 8 0]] (S.ht o) k 0 (bl (l.any λ c=> !S.sW c o)) (S.ht o):=
 S.Ma o (Fu S o l hl) k rfl (λ _=>rfl)
theorem B7 (S:Sh)(d:Dt)(o:ag)(k:Nat):aJ Tryz.prog shape_Shape_cred.f [.ptr 0 0,.agg d.cells,.agg o.cells] S.h0 k 0 (.eu [.agg (S.cr d).cells,bl (S.yx d o)]) S.h0:=
 S.at_ (Fl S d o) (λ ρ=>by simp [SV.aQ,SV.aA,Dt.ax,ag.ax]) (λ ρ=>by simp [SV.aQ,SV.aA,Cr.ax]) n0 rD k
set_option maxHeartbeats 8000000 in
theorem IB (S:Sh)(o:ag)(hk:o.kind<256)(IC:o.mW)(ab:Bool)(m:Nat)(hab:∀ k,aJ Tryz.prog tree_Tree_Above.f [.ptr 4 0,.agg o.aM.cells,.agg o.at_.cells] S.h4 k m (bl ab) S.h4):
  SB Tryz.prog shape_Shape_target.f [.ptr 0 0,.agg o.cells] S.h0 7 0 λ r F=>r=bl (S.tgt o ab)/\F=S.h0:=by
 refine shape_Shape_target.enter (by simp [SV.ay,SV.ok]) (S.ok (Nat.le_refl 7)) (by simp) ?_;dsimp only [shape_Shape_target.s,Co.M,Co.J,Co.H,Co.F,Co.C,Co.B,Co.b8,Co.aB,Co.bN,Co.i6,Co.T,Co.K,Co.E,Co.Q,Co.R,Co.x,Co.W,Co.U,Co.O,Co.D,Co.S];have h6:=S.ok (Nat.le_refl 7);refine SW.seq (SW.g0 [0,1,2,3,4,6,8,9,31,39,50] Zm af ?_);refine SW.seq (SW.seq (SW.g0 [0,1,2,3,4,6,8,9,31,39,50] Zm af ?_));refine SW.block (SW.seq ?_)
 by_cases k2:o.kind=2
 .have q2:(((o.kind:Nat):Int) == 2)=true:=by rw [k2];rfl
  have e:S.tgt o ab=(S.yx o.at_ o && ab):=by unfold Sh.tgt;rw [if_pos k2]
  rw [e];have hc:=B7 S o.at_ o;obtain ⟨c,hcc⟩:∃ c,S.cr o.at_=c:=⟨_,rfl⟩;rw [hcc] at hc;refine SW.g0 [0,1,2,3,4,6,8,9,31,39,50] Zm q2 ?_;refine SW.aj rfl (SW.seq (SW.g1 [0,1,2,3,4,6,8,9,31,39,50] Zm af hc ?_));refine SW.seq ?_;rcases h:S.yx o.at_ o with _ | _
  .refine SW.g1 [0,1,2,3,4,6,8,9,31,39,50] Zm af hab ?_
   refine SW.ret ?_;exact End.mk S.h0 (h4:=⟨rfl,rfl⟩) (h6:=h6)
  .refine SW.g1 [0,1,2,3,4,6,8,9,31,39,50] Zm af hab ?_
   refine SW.ret ?_;exact End.mk S.h0 (h4:=⟨rfl,rfl⟩) (h6:=h6) (h7:=by show 7+0<=10+m;omega)
 have q2:(((o.kind:Nat):Int) == 2)=false:=by simp;omega
 refine SW.g0 [0,1,2,3,4,6,8,9,31,39,50] Zm q2 ?_;refine SW.au rfl (SW.seq (SW.seq ?_))
 by_cases k45:o.kind=4\/o.kind=5
 .have e:S.tgt o ab=S.line o.at_ o:=by unfold Sh.tgt;rw [if_neg k2,if_pos k45]
  rw [e];have hl:=B6 S o.at_ o;rcases k45 with k4 | k5
  .have q4:(((o.kind:Nat):Int) == 4)=true:=by rw [k4];rfl
   refine SW.g0 [0,1,2,3,4,6,8,9,31,39,50] Zm q4 ?_;refine SW.aj rfl (SW.skip (SW.aj rfl (SW.seq (SW.g1 [0,1,2,3,4,6,8,9,31,39,50] Zm af hl ?_))));refine SW.ret ?_;exact End.mk S.h0 (h4:=⟨rfl,rfl⟩) (h6:=h6)
  .have q4:(((o.kind:Nat):Int) == 4)=false:=by simp;omega
   have q5:(((o.kind:Nat):Int) == 5)=true:=by rw [k5];rfl
   refine SW.g0 [0,1,2,3,4,6,8,9,31,39,50] Zm q4 ?_;refine SW.au rfl (SW.g0 [0,1,2,3,4,6,8,9,31,39,50] Zm q5 ?_);refine SW.aj rfl (SW.seq (SW.g1 [0,1,2,3,4,6,8,9,31,39,50] Zm af hl ?_));refine SW.ret ?_;exact End.mk S.h0 (h4:=⟨rfl,rfl⟩) (h6:=h6)
 have q4:(((o.kind:Nat):Int) == 4)=false:=by simp;omega
 have q5:(((o.kind:Nat):Int) == 5)=false:=by simp;omega
 refine SW.g0 [0,1,2,3,4,6,8,9,31,39,50] Zm q4 ?_;refine SW.au rfl (SW.g0 [0,1,2,3,4,6,8,9,31,39,50] Zm q5 ?_);refine SW.au rfl (SW.seq (SW.seq ?_))
 by_cases k67:o.kind=6\/o.kind=7
 .have e:S.tgt o ab=S.sW ⟨o.at_,o.jD⟩ o:=by unfold Sh.tgt;rw [if_neg k2,if_neg k45,if_pos k67]
  rw [e];have hl:=Fo S ⟨o.at_,o.jD⟩ o;have hb:=Cm.Ee o.at_ o.jD;rcases k67 with k6 | k7
  .have q6:(((o.kind:Nat):Int) == 6)=true:=by rw [k6];rfl
   refine SW.g0 [0,1,2,3,4,6,8,9,31,39,50] Zm q6 ?_;refine SW.aj rfl (SW.skip (SW.aj rfl (SW.seq (SW.g1 [0,1,2,3,4,6,8,9,31,39,50] Zm hb hl ?_))));refine SW.ret ?_;exact End.mk S.h0 (h4:=⟨rfl,rfl⟩) (h6:=h6)
  .have q6:(((o.kind:Nat):Int) == 6)=false:=by simp;omega
   have q7:(((o.kind:Nat):Int) == 7)=true:=by rw [k7];rfl
   refine SW.g0 [0,1,2,3,4,6,8,9,31,39,50] Zm q6 ?_;refine SW.au rfl (SW.g0 [0,1,2,3,4,6,8,9,31,39,50] Zm q7 ?_);refine SW.aj rfl (SW.seq (SW.g1 [0,1,2,3,4,6,8,9,31,39,50] Zm hb hl ?_));refine SW.ret ?_;exact End.mk S.h0 (h4:=⟨rfl,rfl⟩) (h6:=h6)
 have q6:(((o.kind:Nat):Int) == 6)=false:=by simp;omega
 have q7:(((o.kind:Nat):Int) == 7)=false:=by simp;omega
 refine SW.g0 [0,1,2,3,4,6,8,9,31,39,50] Zm q6 ?_;refine SW.au rfl (SW.g0 [0,1,2,3,4,6,8,9,31,39,50] Zm q7 ?_);refine SW.au rfl (SW.seq ?_)
 by_cases k8:o.kind=8
 .have e:S.tgt o ab= !(o.cl.any λ c=> !S.sW c o):=by unfold Sh.tgt;rw [if_neg k2,if_neg k45,if_neg k67,if_pos k8]
  rw [e];have q8:(((o.kind:Nat):Int) == 8)=true:=by rw [k8];rfl
  have hcf:=Fv S o o.cl IC.le;have hle:=IC.eq;obtain ⟨b,hb⟩:∃ b,(o.cl.any λ c=> !S.sW c o)=b:=⟨_,rfl⟩;rw [hb] at hcf ⊢;refine SW.g0 [0,1,2,3,4,6,8,9,31,39,50] Zm q8 ?_;refine SW.aj rfl (SW.seq ?_);rcases b with _ | _
  .refine SW.g1 [0,1,2,3,4,6,8,9,31,39,50] Zm hle hcf ?_
   refine SW.ret ?_;exact End.mk S.h0 (h4:=⟨rfl,rfl⟩) (h6:=h6)
  .refine SW.g1 [0,1,2,3,4,6,8,9,31,39,50] Zm hle hcf ?_
   refine SW.ret ?_;exact End.mk S.h0 (h4:=⟨rfl,rfl⟩) (h6:=h6)
 have q8:(((o.kind:Nat):Int) == 8)=false:=by simp;omega
 have e:S.tgt o ab=true:=by unfold Sh.tgt;rw [if_neg k2,if_neg k45,if_neg k67,if_neg k8]
 rw [e];refine SW.g0 [0,1,2,3,4,6,8,9,31,39,50] Zm q8 ?_;refine SW.au rfl (SW.skip (SW.seq (SW.g0 [0,1,2,3,4,6,8,9,31,39,50] Zm af ?_)));refine SW.ret ?_;exact End.mk S.h0 (h4:=⟨rfl,rfl⟩) (h6:=h6)
theorem KX (S:Sh)(o:ag)(hk:o.kind<256)(IC:o.mW)(ab:Bool)(m:Nat)(hab:∀ k,aJ Tryz.prog tree_Tree_Above.f [.ptr 4 0,.agg o.aM.cells,.agg o.at_.cells] S.h4 k m (bl ab) S.h4)(k:Nat):
  aJ Tryz.prog shape_Shape_target.f [.ptr 0 0,.agg o.cells] S.h0 k 0 (bl (S.tgt o ab)) S.h0:=
 S.at_ (IB S o hk IC ab m hab) (λ ρ=>by simp [SV.aQ,SV.aA,ag.ax]) (λ _=>rfl) n0 rD k
end
end
section
def oq (c:Cr)(kind:Nat):Bool:=bits .and .u8 (c.bp:Int) (j9 kind:Int) != (j9 kind:Int)
theorem KY (a:Cr)(o:ag)(g:Bool)(k:Nat):Hp.aA (ff [11,9,8] k) [(0,.box 4 [bl g]),(1,.box 158 a.cells),(2,.box 43 o.cells)]=[(11,.box 4 [bl g]),(9,.box 158 a.cells),(8,.box 43 o.cells)]:=by
 simp only [Hp.aA,List.map_cons,List.map_nil,Ob.aA,SV.aQ,SV.aA,ag.ax,Cr.ax];rfl
theorem KZ (a:Cr)(o:ag)(k:Nat):Hp.aA (ff [9,8] k) [(0,.box 158 a.cells),(1,.box 43 o.cells)]=[(9,.box 158 a.cells),(8,.box 43 o.cells)]:=by
 simp only [Hp.aA,List.map_cons,List.map_nil,Ob.aA,SV.aQ,SV.aA,ag.ax,Cr.ax];rfl
section
attribute [local irreducible] SW RW aJ SC ai an j9
theorem Fw (o:ag):SB Tryz.prog shape_Shape_Why_1.f [.ptr 0 0] [(0,.box 43 o.cells)] 1 0 λ r F=>r=bl (decide ((o.kind:Int)>8))/\F=[(0,.box 43 o.cells)]:=by
 refine shape_Shape_Why_1.enter (by first | rfl | simp [SV.ok,SV.ay]) (by first | rfl | simp [Hp.ok,Ob.ok,SV.ok,SV.ay,aD.aq]) (by simp) ?_;dsimp only [shape_Shape_Why_1.s,Co.M,Co.J,Co.F,Co.B,Co.b8,Co.T,Co.D,Co.S];refine SW.seq (SW.g0 [0,1] Zm af ?_);refine SW.seq (SW.g0 [0,1] Zm af ?_);refine SW.ret ?_;exact End.mk [(0,.box 43 o.cells)] (h4:=⟨rfl,rfl⟩)
theorem Fx (o:ag)(k:Nat):aJ Tryz.prog shape_Shape_Why_1.f [.ptr 8 0] [(8,.box 43 o.cells)] k 0 (bl (decide ((o.kind:Int)>8))) [(8,.box 43 o.cells)]:=by
 have:=SB.nM [8] (Fw o) (by decide) (λ i hi=>by rw [show i=0 by simp at hi;omega];simp [aa]) k;simp only [Hp.aA,List.map_cons,List.map_nil,Ob.aA,SV.aQ,SV.aA,ag.ax] at this;exact this
theorem Fy (S:Sh)(o:ag):SB Tryz.prog shape_Shape_Why_2.f [.ptr 7 0,.ptr 8 0] (S.ht o) 9 0 λ r F=>r=bl (!S.aK o)/\F=S.ht o:=by
 refine shape_Shape_Why_2.enter (by simp [SV.ay,SV.ok]) (S.jo o (Nat.le_refl 9)) (by simp) ?_;dsimp only [shape_Shape_Why_2.s,Co.M,Co.J,Co.F,Co.B,Co.T,Co.K,Co.Q,Co.O,Co.S];have hc:∀ k,aJ Tryz.prog shape_Shape_cart.f [.ptr 0 0,.agg o.cells] S.h0 k 0 (bl (S.aK o)) S.h0:=S.at_ (Fk S o) (λ ρ=>by simp [SV.aQ,SV.aA,ag.ax]) (λ _=>rfl) n0 rD;refine SW.seq (SW.g0 [0,1,2] Zm af ?_);refine SW.seq (SW.g1 [0,1,2] Zm af hc ?_);refine SW.ret ?_;exact End.mk (S.ht o) (h4:=⟨rfl,rfl⟩) (h6:=S.jo o (Nat.le_refl 9))
theorem Fz (S:Sh)(o:ag)(k:Nat):aJ Tryz.prog shape_Shape_Why_2.f [.ptr 7 0,.ptr 8 0] (S.ht o) k 0 (bl (!S.aK o)) (S.ht o):=S.Ma o (Fy S o) k rfl (λ _=>rfl)
theorem FA (g h:Bool):SB Tryz.prog shape_Shape_Why_3.f [.ptr 0 0,.ptr 1 0] [(0,.box 4 [bl g]),(1,.box 4 [bl h])] 2 0 λ r F=>r=bl (!g && !h)/\F=[(0,.box 4 [bl g]),(1,.box 4 [bl h])]:=by
 refine shape_Shape_Why_3.enter (by first | rfl | simp [SV.ok,SV.ay]) (by first | rfl | simp [Hp.ok,Ob.ok,SV.ok,SV.ay,aD.aq]) (by simp) ?_;dsimp only [shape_Shape_Why_3.s,Co.M,Co.J,Co.H,Co.F,Co.B,Co.T,Co.U,Co.O,Co.S];refine SW.seq (SW.g0 [0,1,2] Zm af ?_);refine SW.seq ?_;rcases g with _ | _
 .refine SW.g0 [0,1,2] Zm af ?_
  refine SW.ret ?_;exact End.mk _ (h3:=λ _ _ h=>h) (h4:=⟨by simp [fc],rfl⟩)
 .refine SW.g0 [0,1,2] Zm af ?_
  refine SW.ret ?_;exact End.mk _ (h3:=λ _ _ h=>h) (h4:=⟨rfl,rfl⟩)
theorem FB (g h:Bool)(k:Nat):aJ Tryz.prog shape_Shape_Why_3.f [.ptr 11 0,.ptr 10 0] [(11,.box 4 [bl g]),(10,.box 4 [bl h])] k 0 (bl (!g && !h)) [(11,.box 4 [bl g]),(10,.box 4 [bl h])]:=by
 have:=SB.nM [11,10] (FA g h) (by decide) (λ i hi=>by rcases (show i=0\/i=1 by simp at hi;omega) with rfl | rfl <;> simp [aa]) k;exact this
theorem FC (g:Bool)(c:Cr)(o:ag):SB Tryz.prog shape_Shape_Why_4.f [.ptr 0 0,.ptr 1 0,.ptr 2 0] [(0,.box 4 [bl g]),(1,.box 158 c.cells),(2,.box 43 o.cells)] 3 0 λ r F=>r=bl (!g && ((c.hold:Int) != (o.who:Int)))/\F=[(0,.box 4 [bl g]),(1,.box 158 c.cells),(2,.box 43 o.cells)]:=by
 refine shape_Shape_Why_4.enter (by first | rfl | simp [SV.ok,SV.ay]) (by first | rfl | simp [Hp.ok,Ob.ok,SV.ok,SV.ay,aD.aq]) (by simp) ?_;dsimp only [shape_Shape_Why_4.s,Co.M,Co.J,Co.H,Co.F,Co.B,Co.T,Co.U,Co.O,Co.S];refine SW.seq (SW.g0 [0,1,2,3] Zm af ?_);refine SW.seq ?_;rcases g with _ | _
 .refine SW.g0 [0,1,2,3] Zm af ?_
  refine SW.ret ?_;exact End.mk _ (h3:=λ _ _ h=>h) (h4:=⟨by simp [fc],rfl⟩)
 .refine SW.g0 [0,1,2,3] Zm af ?_
  refine SW.ret ?_;exact End.mk _ (h3:=λ _ _ h=>h) (h4:=⟨rfl,rfl⟩)
theorem FD (g:Bool)(c:Cr)(o:ag)(k:Nat):aJ Tryz.prog shape_Shape_Why_4.f [.ptr 11 0,.ptr 9 0,.ptr 8 0] [(11,.box 4 [bl g]),(9,.box 158 c.cells),(8,.box 43 o.cells)] k 0 (bl (!g && ((c.hold:Int) != (o.who:Int)))) [(11,.box 4 [bl g]),(9,.box 158 c.cells),(8,.box 43 o.cells)]:=by
 have:=SB.nM [11,9,8] (FC g c o) (by decide) (λ i hi=>by rcases (show i=0\/i=1\/i=2 by simp at hi;omega) with rfl | rfl | rfl <;> simp [aa]) k;rw [KY] at this;exact this
theorem FE (c:Cr)(o:ag)(hk:o.kind<256):SB Tryz.prog shape_Shape_Why_5.f [.ptr 0 0,.ptr 1 0] [(0,.box 158 c.cells),(1,.box 43 o.cells)] 2 0 λ r F=>r=bl (oq c o.kind)/\F=[(0,.box 158 c.cells),(1,.box 43 o.cells)]:=by
 refine shape_Shape_Why_5.enter (by first | rfl | simp [SV.ok,SV.ay]) (by first | rfl | simp [Hp.ok,Ob.ok,SV.ok,SV.ay,aD.aq]) (by simp) ?_;dsimp only [shape_Shape_Why_5.s,Co.M,Co.J,Co.F,Co.B,Co.T,Co.P,Co.V,Co.D,Co.S];have hn:=Fq o.kind hk;refine SW.seq (SW.g0 [0,1,2] Zm af ?_);refine SW.seq (SW.g1 [0,1,2] Zm af hn ?_);refine SW.ret ?_;exact End.mk _ (h3:=λ _ _ h=>h) (h4:=⟨rfl,rfl⟩)
theorem FF (c:Cr)(o:ag)(hk:o.kind<256)(k:Nat):aJ Tryz.prog shape_Shape_Why_5.f [.ptr 9 0,.ptr 8 0] [(9,.box 158 c.cells),(8,.box 43 o.cells)] k 0 (bl (oq c o.kind)) [(9,.box 158 c.cells),(8,.box 43 o.cells)]:=by
 have:=SB.nM [9,8] (FE c o hk) (by decide) (λ i hi=>by rcases (show i=0\/i=1 by simp at hi;omega) with rfl | rfl <;> simp [aa]) k;rw [KZ] at this;exact this
theorem K4 (S:Sh)(o:ag)(k:Nat):aJ Tryz.prog tree_Tree_Why.f [.ptr 4 0,.agg o.cells] S.h4 k 4 (i64 (S.T.why o)) S.h4:=E1 S.KU o k
theorem FG (S:Sh)(o:ag):SB Tryz.prog shape_Shape_Why_6.f [.ptr 8 0,.ptr 7 0] (S.ht o) 9 0 λ r F=>r=bl (decide (o.kind=1) && decide (S.T.why o≠0))/\F=S.ht o:=by
 refine shape_Shape_Why_6.enter (by simp [SV.ay,SV.ok]) (S.jo o (Nat.le_refl 9)) (by simp) ?_;dsimp only [shape_Shape_Why_6.s,Co.M,Co.J,Co.H,Co.F,Co.C,Co.Z,Co.B,Co.b8,Co.T,Co.U,Co.D,Co.S];have hw:=K4 S o;obtain ⟨w,hww⟩:∃ w,S.T.why o=w:=⟨_,rfl⟩;rw [hww] at hw ⊢;refine SW.seq (SW.g0 [0,1,2] Zm af ?_);refine SW.seq ?_
 by_cases h:o.kind=1
 .have q:(((o.kind:Nat):Int) == 1)=true:=by rw [h];rfl
  have hz:(((w:Nat):Int) != 0)=decide (w≠0):=by rw [Bool.eq_iff_iff];simp
  refine SW.g1 [0,1,2] Zm (Zq q hz) hw ?_;refine SW.ret ?_;exact End.mk (S.ht o) (h4:=⟨by simp [fc,h],rfl⟩) (h6:=S.jo o (Nat.le_refl 9))
 .have q:(((o.kind:Nat):Int) == 1)=false:=by simp;omega
  refine SW.g1 [0,1,2] Zm q hw ?_;refine SW.ret ?_;exact End.mk (S.ht o) (h4:=⟨by simp [fc,h],rfl⟩) (h6:=S.jo o (Nat.le_refl 9))
theorem FH (S:Sh)(o:ag)(k:Nat):aJ Tryz.prog shape_Shape_Why_6.f [.ptr 8 0,.ptr 7 0] (S.ht o) k 0 (bl (decide (o.kind=1) && decide (S.T.why o≠0))) (S.ht o):=S.Ma o (FG S o) k rfl (λ _=>rfl)
theorem FI (S:Sh)(o:ag)(b:Bool)(hc:∀ k,aJ Tryz.prog shape_Shape_target.f [.ptr 0 0,.agg o.cells] S.h0 k 0 (bl b) S.h0):SB Tryz.prog shape_Shape_Why_7.f [.ptr 7 0,.ptr 8 0] (S.ht o) 9 0 λ r F=>r=bl (!b)/\F=S.ht o:=by
 refine shape_Shape_Why_7.enter (by simp [SV.ay,SV.ok]) (S.jo o (Nat.le_refl 9)) (by simp) ?_;dsimp only [shape_Shape_Why_7.s,Co.M,Co.J,Co.F,Co.B,Co.T,Co.K,Co.Q,Co.O,Co.S];refine SW.seq (SW.g0 [0,1,2] Zm af ?_);refine SW.seq (SW.g1 [0,1,2] Zm af hc ?_);refine SW.ret ?_;exact End.mk (S.ht o) (h4:=⟨rfl,rfl⟩) (h6:=S.jo o (Nat.le_refl 9))
theorem FJ (S:Sh)(o:ag)(b:Bool)(hc:∀ k,aJ Tryz.prog shape_Shape_target.f [.ptr 0 0,.agg o.cells] S.h0 k 0 (bl b) S.h0)(k:Nat):aJ Tryz.prog shape_Shape_Why_7.f [.ptr 7 0,.ptr 8 0] (S.ht o) k 0 (bl (!b)) (S.ht o):=S.Ma o (FI S o b hc) k rfl (λ _=>rfl)
theorem FK (S:Sh):SB Tryz.prog shape_Shape_none.f [.ptr 0 0] S.h0 7 0 λ r F=>r=bl false/\F=S.h0:=by
 refine shape_Shape_none.enter (by simp [SV.ay,SV.ok]) (S.ok (Nat.le_refl 7)) (by simp) ?_;dsimp only [shape_Shape_none.s,Co.M,Co.G,Co.J,Co.H,Co.F,Co.B,Co.S];(repeat (first | refine SW.seq ?_ | refine SW.block ?_ | refine SW.g0 [0,2] Zm af ?_ | refine SW.skip ?_ | refine SW.exit ?_ | refine SW.ret ?_ | refine SW.aj rfl ?_ | refine SW.au rfl ?_));exact End.mk S.h0 (h4:=⟨rfl,rfl⟩) (h6:=S.ok (Nat.le_refl 7))
theorem rE (S:Sh)(k:Nat):aJ Tryz.prog shape_Shape_none.f [.ptr 0 0] S.h0 k 0 (bl false) S.h0:=S.at_ (FK S) (λ _=>rfl) (λ _=>rfl) n0 rD k
end
end
section
def sX:List SV:=[.d (.int .i64 2),.fn (.func 125) [] [.ptr 8 0],.d (.int .i64 271),.fn (.func 126) [] [.ptr 7 0,.ptr 8 0],.d (.int .i64 272),.fn (.func 128) [] [.ptr 11 0,.ptr 10 0],.d (.int .i64 273),.fn (.func 129) [] [.ptr 11 0,.ptr 9 0,.ptr 8 0],.d (.int .i64 274),.fn (.func 130) [] [.ptr 9 0,.ptr 8 0],.d (.int .i64 275),.fn (.func 132) [] [.ptr 8 0,.ptr 7 0],.d (.int .i64 276),.fn (.func 134) [] [.ptr 7 0,.ptr 8 0]]
theorem FL:List.take 2 sX=[.d (.int .i64 2),.fn (.func 125) [] [.ptr 8 0]]:=rfl
theorem FM:List.take 2 (List.drop 2 sX)=[.d (.int .i64 271),.fn (.func 126) [] [.ptr 7 0,.ptr 8 0]]:=rfl
theorem FN:List.take 2 (List.drop 4 sX)=[.d (.int .i64 272),.fn (.func 128) [] [.ptr 11 0,.ptr 10 0]]:=rfl
theorem FO:List.take 2 (List.drop 6 sX)=[.d (.int .i64 273),.fn (.func 129) [] [.ptr 11 0,.ptr 9 0,.ptr 8 0]]:=rfl
theorem FP:List.take 2 (List.drop 8 sX)=[.d (.int .i64 274),.fn (.func 130) [] [.ptr 9 0,.ptr 8 0]]:=rfl
theorem FQ:List.take 2 (List.drop 10 sX)=[.d (.int .i64 275),.fn (.func 132) [] [.ptr 8 0,.ptr 7 0]]:=rfl
theorem FR:List.take 2 (List.drop 12 sX)=[.d (.int .i64 276),.fn (.func 134) [] [.ptr 7 0,.ptr 8 0]]:=rfl
theorem M3:∀ (x0 x1 x2 x3 x4 x5 x6 x7 x8 x9 NS NT NU NV a0 b0 a1 b1 a2 b2 a3 b3 a4 b4 a5 b5 a6 b6:SV),(cG (cG (cG (cG (cG (cG (cG ([x0,x1,x2,x3,x4,x5,x6,x7,x8,x9,NS,NT,NU,NV]) 0 [a0,b0]) 2 [a1,b1]) 4 [a2,b2]) 6 [a3,b3]) 8 [a4,b4]) 10 [a5,b5]) 12 [a6,b6])=[a0,b0,a1,b1,a2,b2,a3,b3,a4,b4,a5,b5,a6,b6]:=λ _ _ _ _ _ _ _ _ _ _ _ _ _ _ _ _ _ _ _ _ _ _ _ _ _ _ _ _=>rfl
@[simp] theorem M4:sX.length=14:=rfl
theorem lY:SV.ay (λ n=>decide (n<12)) sX=true:=rfl
def Sh.rF (S:Sh)(o:ag)(ab:Bool):Nat->Bool
 | 0=>decide ((o.kind:Int)>8)
 | 1=> !S.aK o
 | 2=> !((o.kind:Int) == 0) && !S.yx o.aM o
 | 3=> !((o.kind:Int) == 0) && (((S.cr o.aM).hold:Int) != (o.who:Int))
 | 4=>oq (S.cr o.aM) o.kind
 | 5=>decide (o.kind=1) && decide (S.T.why o≠0)
 | _=> !S.tgt o ab
def Sh.why (S:Sh)(o:ag)(ab:Bool):Nat:=
 if S.rF o ab 0 then 2 else if S.rF o ab 1 then 271 else if S.rF o ab 2 then 272 else if S.rF o ab 3 then 273 else if S.rF o ab 4 then 274 else if S.rF o ab 5 then 275 else if S.rF o ab 6 then 276 else 0
abbrev Sh.hw (S:Sh)(o:ag)(c:Cr)(g h:Bool):Hp:=(11,.box 4 [bl g])::(10,.box 4 [bl h])::(9,.box 158 c.cells)::S.ht o
theorem Sh.M5 (S:Sh)(o:ag)(c:Cr)(g h:Bool){k:Nat}(hk:12<=k):(S.hw o c g h).ok (λ n=>decide (n<k))=true:=by
 have:=S.jo o (k:=k) (by omega);simp only [Sh.hw,Hp.ok,List.all_cons,Ob.ok,Cr.aq,SV.ay,SV.ok,Bool.and_true,Bool.and_eq_true,decide_eq_true_eq] at this ⊢;exact ⟨by omega,by omega,by omega,this⟩
section
attribute [local irreducible] SW RW aJ SC ai an j9 Sh.tgt Sh.aK Sh.yx oq sX
set_option maxHeartbeats 8000000 in
theorem ID (S:Sh)(o:ag)(hk:o.kind<256)(ab:Bool)(hT:∀ k,aJ Tryz.prog shape_Shape_target.f [.ptr 0 0,.agg o.cells] S.h0 k 0 (bl (S.tgt o ab)) S.h0):
  SB Tryz.prog shape_Shape_Why.f [.ptr 0 0,.agg o.cells] S.h0 7 0 λ r F=>r=i64 (S.why o ab)/\F=S.h0:=by
 refine shape_Shape_Why.enter (by simp [SV.ay,SV.ok]) (S.ok (Nat.le_refl 7)) (by simp) ?_;dsimp only [shape_Shape_Why.s,Co.M,Co.J,Co.F,Co.Z,Co.b8,Co.aB,Co.bN,Co.i6,Co.T,Co.K,Co.E,Co.P,Co.R,Co.x,Co.W,Co.Y,Co.D,Co.S];have h6:=S.ok (Nat.le_refl 7);have hn:=rE S;refine SW.seq (SW.g0 [0,1,2,3,4,5,6,7,9,11,37,38,39,43] Zm af ?_);refine SW.seq (SW.seq (SW.g1 [0,1,2,3,4,5,6,7,9,11,37,38,39,43] Zm af hn ?_));refine SW.au rfl (SW.skip ?_);have hc:=B7 S o.aM o;obtain ⟨c,hcc⟩:∃ c,S.cr o.aM=c:=⟨_,rfl⟩;obtain ⟨h,hh⟩:∃ h,S.yx o.aM o=h:=⟨_,rfl⟩;obtain ⟨g,hg⟩:∃ g,((o.kind:Int) == 0)=g:=⟨_,rfl⟩;have e2:S.rF o ab 2=(!g && !h):=by show (!((o.kind:Int) == 0) && !S.yx o.aM o)=_;rw [hg,hh]
 have e3:S.rF o ab 3=(!g && ((c.hold:Int) != (o.who:Int))):=by show (!((o.kind:Int) == 0) && (((S.cr o.aM).hold:Int) != (o.who:Int)))=_;rw [hg,hcc]
 have e4:S.rF o ab 4=oq c o.kind:=by show oq (S.cr o.aM) o.kind=_;rw [hcc]
 rw [hcc,hh] at hc;refine SW.seq (SW.g1 [0,1,2,3,4,5,6,7,9,11,37,38,39,43] Zm af hc ?_);refine SW.seq (SW.g0 [0,1,2,3,4,5,6,7,9,11,37,38,39,43] Zm hg ?_);refine SW.seq (SW.seq ?_);have eR:([.d (.int .i64 2),.fn (.func 125) [] [.ptr 8 0],.d (.int .i64 271),.fn (.func 126) [] [.ptr 7 0,.ptr 8 0],.d (.int .i64 272),.fn (.func 128) [] [.ptr 11 0,.ptr 10 0],.d (.int .i64 273),.fn (.func 129) [] [.ptr 11 0,.ptr 9 0,.ptr 8 0],.d (.int .i64 274),.fn (.func 130) [] [.ptr 9 0,.ptr 8 0],.d (.int .i64 275),.fn (.func 132) [] [.ptr 8 0,.ptr 7 0],.d (.int .i64 276),.fn (.func 134) [] [.ptr 7 0,.ptr 8 0]]:List SV)=sX:=by unfold sX;rfl
 refine SW.g0 [0,1,2,3,4,5,6,7,9,11,37,38,39,43] Zm (Zq zB (Zq M3 eR)) ?_;refine SW.block ?_;have nd:((S.hw o c g h).map (·.1)).Nodup:=by simp
 have hH:=S.M5 o c g h (Nat.le_refl 12);have c0:∀ k,aJ Tryz.prog 125 [.ptr 8 0] [(8,.box 43 o.cells)] k 0 (bl (S.rF o ab 0)) [(8,.box 43 o.cells)]:=λ k=>Fx o k
 have c1:∀ k,aJ Tryz.prog 126 [.ptr 7 0,.ptr 8 0] (S.ht o) k 0 (bl (S.rF o ab 1)) (S.ht o):=λ k=>Fz S o k
 have c2:∀ k,aJ Tryz.prog 128 [.ptr 11 0,.ptr 10 0] [(11,.box 4 [bl g]),(10,.box 4 [bl h])] k 0 (bl (S.rF o ab 2)) [(11,.box 4 [bl g]),(10,.box 4 [bl h])]:=λ k=>by rw [e2];exact FB g h k
 have c3:∀ k,aJ Tryz.prog 129 [.ptr 11 0,.ptr 9 0,.ptr 8 0] [(11,.box 4 [bl g]),(9,.box 158 c.cells),(8,.box 43 o.cells)] k 0 (bl (S.rF o ab 3)) [(11,.box 4 [bl g]),(9,.box 158 c.cells),(8,.box 43 o.cells)]:=λ k=>by rw [e3];exact FD g c o k
 have c4:∀ k,aJ Tryz.prog 130 [.ptr 9 0,.ptr 8 0] [(9,.box 158 c.cells),(8,.box 43 o.cells)] k 0 (bl (S.rF o ab 4)) [(9,.box 158 c.cells),(8,.box 43 o.cells)]:=λ k=>by rw [e4];exact FF c o hk k
 have c5:∀ k,aJ Tryz.prog 132 [.ptr 8 0,.ptr 7 0] (S.ht o) k 0 (bl (S.rF o ab 5)) (S.ht o):=λ k=>FH S o k
 have c6:∀ k,aJ Tryz.prog 134 [.ptr 7 0,.ptr 8 0] (S.ht o) k 0 (bl (S.rF o ab 6)) (S.ht o):=λ k=>FJ S o _ hT k
 have hw:S.why o ab=if S.rF o ab 0 then 2 else if S.rF o ab 1 then 271 else if S.rF o ab 2 then 272 else if S.rF o ab 3 then 273 else if S.rF o ab 4 then 274 else if S.rF o ab 5 then 275 else if S.rF o ab 6 then 276 else 0:=rfl
 generalize S.rF o ab=rb at c0 c1 c2 c3 c4 c5 c6 hw;rw [hw];clear hw e2 e3 e4 hc hn;refine SW.loop (α:={i:Nat // i<=7/\∀ j,j<i->rb j=false}) (λ i=>⟨[(38,i64 i.1),(37,.agg sX)],S.hw o c g h,12⟩) (λ i=>7 - i.1) ⟨0,by omega,λ j hj=>absurd hj (by omega)⟩ id ?_ ?_
 .exact aI.same (by simp) (by simp [aL,List.lookup,SV.aA,SV.bP,SV.ok,lY]) hH (aH nd)
 rintro ⟨i,hi,hz⟩;have hdrop:∀ (o2:Ob) (x:Nat×Ob),x∈S.hw o c g h->lk ((12,o2)::S.hw o c g h) x.1=some x.2:=λ o2 x hx=>by
  have hl:=aH nd x hx;rw [aa,if_neg ?_]
  .exact hl
  .intro e
   have:=(Hp.eF hH hl).1;simp at this;omega
 match i,hi,hz with
 | 0,_,hz=>
  rcases (Bool.eq_false_or_eq_true (rb 0)).symm with h0 | h0
  .rw [h0] at c0
   (repeat (first | refine SW.seq ?_ | refine SW.block ?_ | refine SW.g1 [0,1,2,3,4,5,6,7,9,11,37,38,39,43] Zm (Zq FL gA) c0 ?_ | refine SW.skip ?_ | refine SW.exit ?_ | refine SW.ret ?_ | refine SW.aj rfl ?_ | refine SW.au rfl ?_));exact ⟨⟨1,by omega,λ j hj=>by
    rcases Nat.lt_succ_iff_lt_or_eq.1 hj with hj | rfl
    .exact hz j hj
    .exact h0⟩,id,by dsimp only;omega,aI.same (by simp) (by simp [aL,List.lookup,SV.aA,SV.bP,SV.ok,lY]) hH (λ x hx=>hdrop _ x hx)⟩
  .rw [h0] at c0
   (repeat (first | refine SW.seq ?_ | refine SW.block ?_ | refine SW.g1 [0,1,2,3,4,5,6,7,9,11,37,38,39,43] Zm (Zq FL gA) c0 ?_ | refine SW.skip ?_ | refine SW.exit ?_ | refine SW.ret ?_ | refine SW.aj rfl ?_ | refine SW.au rfl ?_));exact End.mk S.h0 (h4:=⟨by  rw [if_pos h0];rfl,rfl⟩) (h6:=h6)
 | 1,_,hz=>
  have z0:rb 0=false:=hz 0 (by omega);rcases (Bool.eq_false_or_eq_true (rb 1)).symm with h0 | h0
  .rw [h0] at c1
   (repeat (first | refine SW.seq ?_ | refine SW.block ?_ | refine SW.g1 [0,1,2,3,4,5,6,7,9,11,37,38,39,43] Zm (Zq FM gA) c1 ?_ | refine SW.skip ?_ | refine SW.exit ?_ | refine SW.ret ?_ | refine SW.aj rfl ?_ | refine SW.au rfl ?_));exact ⟨⟨2,by omega,λ j hj=>by
    rcases Nat.lt_succ_iff_lt_or_eq.1 hj with hj | rfl
    .exact hz j hj
    .exact h0⟩,id,by dsimp only;omega,aI.same (by simp) (by simp [aL,List.lookup,SV.aA,SV.bP,SV.ok,lY]) hH (λ x hx=>hdrop _ x hx)⟩
  .rw [h0] at c1
   (repeat (first | refine SW.seq ?_ | refine SW.block ?_ | refine SW.g1 [0,1,2,3,4,5,6,7,9,11,37,38,39,43] Zm (Zq FM gA) c1 ?_ | refine SW.skip ?_ | refine SW.exit ?_ | refine SW.ret ?_ | refine SW.aj rfl ?_ | refine SW.au rfl ?_));exact End.mk S.h0 (h4:=⟨by rw [if_neg (by rw [z0];simp)];rw [if_pos h0];rfl,rfl⟩) (h6:=h6)
 | 2,_,hz=>
  have z0:rb 0=false:=hz 0 (by omega);have z1:rb 1=false:=hz 1 (by omega);rcases (Bool.eq_false_or_eq_true (rb 2)).symm with h0 | h0
  .rw [h0] at c2
   (repeat (first | refine SW.seq ?_ | refine SW.block ?_ | refine SW.g1 [0,1,2,3,4,5,6,7,9,11,37,38,39,43] Zm (Zq FN gA) c2 ?_ | refine SW.skip ?_ | refine SW.exit ?_ | refine SW.ret ?_ | refine SW.aj rfl ?_ | refine SW.au rfl ?_));exact ⟨⟨3,by omega,λ j hj=>by
    rcases Nat.lt_succ_iff_lt_or_eq.1 hj with hj | rfl
    .exact hz j hj
    .exact h0⟩,id,by dsimp only;omega,aI.same (by simp) (by simp [aL,List.lookup,SV.aA,SV.bP,SV.ok,lY]) hH (λ x hx=>hdrop _ x hx)⟩
  .rw [h0] at c2
   (repeat (first | refine SW.seq ?_ | refine SW.block ?_ | refine SW.g1 [0,1,2,3,4,5,6,7,9,11,37,38,39,43] Zm (Zq FN gA) c2 ?_ | refine SW.skip ?_ | refine SW.exit ?_ | refine SW.ret ?_ | refine SW.aj rfl ?_ | refine SW.au rfl ?_));exact End.mk S.h0 (h4:=⟨by rw [if_neg (by rw [z0];simp)];rw [if_neg (by rw [z1];simp)];rw [if_pos h0];rfl,rfl⟩) (h6:=h6)
 | 3,_,hz=>
  have z0:rb 0=false:=hz 0 (by omega);have z1:rb 1=false:=hz 1 (by omega);have z2:rb 2=false:=hz 2 (by omega);rcases (Bool.eq_false_or_eq_true (rb 3)).symm with h0 | h0
  .rw [h0] at c3
   (repeat (first | refine SW.seq ?_ | refine SW.block ?_ | refine SW.g1 [0,1,2,3,4,5,6,7,9,11,37,38,39,43] Zm (Zq FO gA) c3 ?_ | refine SW.skip ?_ | refine SW.exit ?_ | refine SW.ret ?_ | refine SW.aj rfl ?_ | refine SW.au rfl ?_));exact ⟨⟨4,by omega,λ j hj=>by
    rcases Nat.lt_succ_iff_lt_or_eq.1 hj with hj | rfl
    .exact hz j hj
    .exact h0⟩,id,by dsimp only;omega,aI.same (by simp) (by simp [aL,List.lookup,SV.aA,SV.bP,SV.ok,lY]) hH (λ x hx=>hdrop _ x hx)⟩
  .rw [h0] at c3
   (repeat (first | refine SW.seq ?_ | refine SW.block ?_ | refine SW.g1 [0,1,2,3,4,5,6,7,9,11,37,38,39,43] Zm (Zq FO gA) c3 ?_ | refine SW.skip ?_ | refine SW.exit ?_ | refine SW.ret ?_ | refine SW.aj rfl ?_ | refine SW.au rfl ?_));exact End.mk S.h0 (h4:=⟨by rw [if_neg (by rw [z0];simp)];rw [if_neg (by rw [z1];simp)];rw [if_neg (by rw [z2];simp)];rw [if_pos h0];rfl,rfl⟩) (h6:=h6)
 | 4,_,hz=>
  have z0:rb 0=false:=hz 0 (by omega);have z1:rb 1=false:=hz 1 (by omega);have z2:rb 2=false:=hz 2 (by omega);have z3:rb 3=false:=hz 3 (by omega);rcases (Bool.eq_false_or_eq_true (rb 4)).symm with h0 | h0
  .rw [h0] at c4
   (repeat (first | refine SW.seq ?_ | refine SW.block ?_ | refine SW.g1 [0,1,2,3,4,5,6,7,9,11,37,38,39,43] Zm (Zq FP gA) c4 ?_ | refine SW.skip ?_ | refine SW.exit ?_ | refine SW.ret ?_ | refine SW.aj rfl ?_ | refine SW.au rfl ?_));exact ⟨⟨5,by omega,λ j hj=>by
    rcases Nat.lt_succ_iff_lt_or_eq.1 hj with hj | rfl
    .exact hz j hj
    .exact h0⟩,id,by dsimp only;omega,aI.same (by simp) (by simp [aL,List.lookup,SV.aA,SV.bP,SV.ok,lY]) hH (λ x hx=>hdrop _ x hx)⟩
  .rw [h0] at c4
   (repeat (first | refine SW.seq ?_ | refine SW.block ?_ | refine SW.g1 [0,1,2,3,4,5,6,7,9,11,37,38,39,43] Zm (Zq FP gA) c4 ?_ | refine SW.skip ?_ | refine SW.exit ?_ | refine SW.ret ?_ | refine SW.aj rfl ?_ | refine SW.au rfl ?_));exact End.mk S.h0 (h4:=⟨by rw [if_neg (by rw [z0];simp)];rw [if_neg (by rw [z1];simp)];rw [if_neg (by rw [z2];simp)];rw [if_neg (by rw [z3];simp)];rw [if_pos h0];rfl,rfl⟩) (h6:=h6)
 | 5,_,hz=>
  have z0:rb 0=false:=hz 0 (by omega);have z1:rb 1=false:=hz 1 (by omega);have z2:rb 2=false:=hz 2 (by omega);have z3:rb 3=false:=hz 3 (by omega);have z4:rb 4=false:=hz 4 (by omega);rcases (Bool.eq_false_or_eq_true (rb 5)).symm with h0 | h0
  .rw [h0] at c5
   (repeat (first | refine SW.seq ?_ | refine SW.block ?_ | refine SW.g1 [0,1,2,3,4,5,6,7,9,11,37,38,39,43] Zm (Zq FQ gA) c5 ?_ | refine SW.skip ?_ | refine SW.exit ?_ | refine SW.ret ?_ | refine SW.aj rfl ?_ | refine SW.au rfl ?_));exact ⟨⟨6,by omega,λ j hj=>by
    rcases Nat.lt_succ_iff_lt_or_eq.1 hj with hj | rfl
    .exact hz j hj
    .exact h0⟩,id,by dsimp only;omega,aI.same (by simp) (by simp [aL,List.lookup,SV.aA,SV.bP,SV.ok,lY]) hH (λ x hx=>hdrop _ x hx)⟩
  .rw [h0] at c5
   (repeat (first | refine SW.seq ?_ | refine SW.block ?_ | refine SW.g1 [0,1,2,3,4,5,6,7,9,11,37,38,39,43] Zm (Zq FQ gA) c5 ?_ | refine SW.skip ?_ | refine SW.exit ?_ | refine SW.ret ?_ | refine SW.aj rfl ?_ | refine SW.au rfl ?_));exact End.mk S.h0 (h4:=⟨by rw [if_neg (by rw [z0];simp)];rw [if_neg (by rw [z1];simp)];rw [if_neg (by rw [z2];simp)];rw [if_neg (by rw [z3];simp)];rw [if_neg (by rw [z4];simp)];rw [if_pos h0];rfl,rfl⟩) (h6:=h6)
 | 6,_,hz=>
  have z0:rb 0=false:=hz 0 (by omega);have z1:rb 1=false:=hz 1 (by omega);have z2:rb 2=false:=hz 2 (by omega);have z3:rb 3=false:=hz 3 (by omega);have z4:rb 4=false:=hz 4 (by omega);have z5:rb 5=false:=hz 5 (by omega);rcases (Bool.eq_false_or_eq_true (rb 6)).symm with h0 | h0
  .rw [h0] at c6
   (repeat (first | refine SW.seq ?_ | refine SW.block ?_ | refine SW.g1 [0,1,2,3,4,5,6,7,9,11,37,38,39,43] Zm (Zq FR gA) c6 ?_ | refine SW.skip ?_ | refine SW.exit ?_ | refine SW.ret ?_ | refine SW.aj rfl ?_ | refine SW.au rfl ?_));exact ⟨⟨7,by omega,λ j hj=>by
    rcases Nat.lt_succ_iff_lt_or_eq.1 hj with hj | rfl
    .exact hz j hj
    .exact h0⟩,id,by dsimp only;omega,aI.same (by simp) (by simp [aL,List.lookup,SV.aA,SV.bP,SV.ok,lY]) hH (λ x hx=>hdrop _ x hx)⟩
  .rw [h0] at c6
   (repeat (first | refine SW.seq ?_ | refine SW.block ?_ | refine SW.g1 [0,1,2,3,4,5,6,7,9,11,37,38,39,43] Zm (Zq FR gA) c6 ?_ | refine SW.skip ?_ | refine SW.exit ?_ | refine SW.ret ?_ | refine SW.aj rfl ?_ | refine SW.au rfl ?_));exact End.mk S.h0 (h4:=⟨by rw [if_neg (by rw [z0];simp)];rw [if_neg (by rw [z1];simp)];rw [if_neg (by rw [z2];simp)];rw [if_neg (by rw [z3];simp)];rw [if_neg (by rw [z4];simp)];rw [if_neg (by rw [z5];simp)];rw [if_pos h0];rfl,rfl⟩) (h6:=h6)
 | 7,_,hz=>
  have z0:rb 0=false:=hz 0 (by omega);have z1:rb 1=false:=hz 1 (by omega);have z2:rb 2=false:=hz 2 (by omega);have z3:rb 3=false:=hz 3 (by omega);have z4:rb 4=false:=hz 4 (by omega);have z5:rb 5=false:=hz 5 (by omega);have z6:rb 6=false:=hz 6 (by omega);(repeat (first | refine SW.seq ?_ | refine SW.block ?_ | refine SW.g0 [0,1,2,3,4,5,6,7,9,11,37,38,39,43] Zm af ?_ | refine SW.skip ?_ | refine SW.exit ?_ | refine SW.ret ?_ | refine SW.aj rfl ?_ | refine SW.au rfl ?_));exact End.mk S.h0 (h4:=⟨by rw [if_neg (by rw [z0];simp)];rw [if_neg (by rw [z1];simp)];rw [if_neg (by rw [z2];simp)];rw [if_neg (by rw [z3];simp)];rw [if_neg (by rw [z4];simp)];rw [if_neg (by rw [z5];simp)];rw [if_neg (by rw [z6];simp)];rfl,rfl⟩) (h6:=h6)
theorem IE (S:Sh)(o:ag)(hk:o.kind<256)(ab:Bool)(hT:∀ k,aJ Tryz.prog shape_Shape_target.f [.ptr 0 0,.agg o.cells] S.h0 k 0 (bl (S.tgt o ab)) S.h0)(n:Sn)(hn:n.ok)(k:Nat):
  aJ Tryz.prog shape_Shape_Why.f [.ptr n.b 0,.agg o.cells] (S.hp n) k 0 (i64 (S.why o ab)) (S.hp n):=
 S.at_ (ID S o hk ab hT) (λ ρ=>by simp [SV.aQ,SV.aA,ag.ax]) (λ _=>rfl) n hn k
end
end
end Go.Proofs.YtaelhkkjgfobhaaGreat
