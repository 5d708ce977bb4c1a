/-
 Shapes: what a shape holds; which operation is before another one, carts, credentials.
-/
import Derived.Test.YtaelhkkjgfobhaaGreatK6
import Derived.Test.YtaelhkkjgfobhaaGreatKV
import Derived.Test.YtaelhkkjgfobhaaGreatKC
import Derived.Test.YtaelhkkjgfobhaaGreatKD
set_option linter.unusedSectionVars false
set_option linter.unusedVariables false
set_option linter.unusedSimpArgs false
namespace Go.Proofs.YtaelhkkjgfobhaaGreat
open Go.Sl Go.Proofs
section
def dv (d:Dt):SV:= .agg d.cells
theorem Fv (L:MM Dt Dt)(a:Dt):fH (an Dt.cells dv L) (.agg (⟨0,0⟩:Dt).cells) (MM.idx L a)= .agg ((MM.get L a).getD ⟨0,0⟩).cells:=iJ (vs:=dv) ⟨0,0⟩ L a
theorem Fw (L:MM Dt Dt)(c:Nat)(a v:Dt):mq (an Dt.cells dv L) c (.agg a.cells) (.agg v.cells) (MM.idx L a)= .map (an Dt.cells dv (MM.put L c a v)) (MM.iU L c a):=jC (vs:=dv) L c a v
theorem zT (L:MM Dt ag)(c:Nat)(a:Dt)(v:ag):mq (an Dt.cells ov L) c (.agg a.cells) (.agg v.cells) (MM.idx L a)= .map (an Dt.cells ov (MM.put L c a v)) (MM.iU L c a):=jC (vs:=ov) L c a v
theorem nY (ρ:Nat→Nat)(L:MM Dt Dt):(an Dt.cells dv L).map (fun e=>(e.1,e.2.1.aC ρ,e.2.2.aC ρ))=an Dt.cells dv L:=kV ρ L (fun a=>Dt.ax a ρ) (fun v=>by simp [dv,SV.aC,Dt.ax])
theorem lp (q:Nat→Bool)(L:MM Dt Dt):((an Dt.cells dv L).all fun e=>e.2.1.ok q && e.2.2.ok q)=true:=ny q L (fun a=>Dt.ai a q) (fun v=>by simp [dv,SV.ok,Dt.ai])
structure Sh where
 ops:MM Dt ag
 co:Nat
 gf:MM Dt Int
 ca:Nat
 mA:MM Dt Dt
 cl:Nat
 tr:MM Dt Cr
 ct:Nat
 md:MM Dt ag
 cm:Nat
abbrev Sh.h0 (S:Sh):Hp:=[(0,.box 117 [.ptr 4 0,.mp 1,.mp 2,.mp 3]),(1,.map (an Dt.cells ov S.ops) S.co),(2,.map (an Dt.cells iv S.gf) S.ca),(3,.map (an Dt.cells dv S.mA) S.cl),
 (4,.box 166 [.mp 5,.mp 6]),(5,.map (an Dt.cells cv S.tr) S.ct),(6,.map (an Dt.cells ov S.md) S.cm)]
abbrev Sh.T (S:Sh):Tr:=⟨4,5,6,S.tr,S.ct,S.md,S.cm⟩
theorem Sh.HM (S:Sh):S.T.sep:=⟨by show (5:Nat)≠4;decide,by show (6:Nat)≠4;decide,by show (5:Nat)≠6;decide⟩
theorem Sh.ok (S:Sh){k:Nat}(h:7≤k):S.h0.ok (fun n=>decide (n<k))=true:=by
 have a:=bq (fun n=>decide (n<k)) S.ops
 have b:=bM (fun n=>decide (n<k)) S.gf
 have c:=lp (fun n=>decide (n<k)) S.mA
 have d:=iY (fun n=>decide (n<k)) S.tr
 have e:=bq (fun n=>decide (n<k)) S.md
 simp only [Hp.ok,List.all_cons,List.all_nil,Ob.ok,SV.ay,SV.ok,a,b,c,d,e,Bool.and_true,Bool.true_and,Bool.and_eq_true,decide_eq_true_eq]
 omega
def Sh.op (S:Sh)(d:Dt):ag:=(MM.get S.ops d).getD ag.zero
def Sh.cr (S:Sh)(d:Dt):Cr:=(MM.get S.tr d).getD Cr.zero
def Sh.r9 (S:Sh)(d:Dt)(o:ag):Bool:=MM.has S.ops d && (S.op d).before o
def Sh.aG (S:Sh)(o:ag):Bool:=if o.kind=0 then decide (o.aG=o.dot) else MM.has S.ops o.aG && (decide ((S.op o.aG).kind=0) && (decide ((S.op o.aG).aG=(S.op o.aG).dot) && (S.op o.aG).before o))
def Sh.we (S:Sh)(d:Dt)(o:ag):Bool:=MM.has S.tr d && (decide ((S.cr d).aG=o.aG) && S.r9 d o)
def Sh.line (S:Sh)(d:Dt)(o:ag):Bool:=decide (0<(MM.get S.gf d).getD 0) && (decide ((S.op d).aG=o.aG) && S.r9 d o)
def Sh.qN (S:Sh)(c:Cm)(o:ag):Bool:=S.line c.line o && (decide (c.iK=c.line) || (MM.has S.mA c.iK && (decide ((MM.get S.mA c.iK).getD ⟨0,0⟩=c.line) && S.r9 c.iK o)))
section
attribute [local irreducible] SW RW aM SC ak au
set_option maxHeartbeats 4000000 in
theorem Fx (S:Sh)(d:Dt)(o:ag):SB Tryz.prog shape_Shape_before.f [.ptr 0 0,.agg d.cells,.agg o.cells] S.h0 7 0 fun r F=>r=bl (S.r9 d o)∧F=S.h0:=by
 refine shape_Shape_before.enter (by simp [SV.ay,SV.ok]) (S.ok (Nat.le_refl 7)) (by simp) ?_
 dsimp only [shape_Shape_before.s,Co.M,Co.G,Co.J,Co.H,Co.N,Co.F,Co.C,Co.Z,Co.B,Co.b8,Co.aB,Co.bL,Co.i6,Co.z8,Co.bU]
 obtain ⟨a,ha⟩:∃ a,(MM.get S.ops d).getD ag.zero=a:=⟨_,rfl⟩
 have hb:=jH a o
 refine SW.seq ?_
 refine SW.g0 [0,1,2,4,5,6,7,8] mixed af ?_
 refine SW.seq ?_
 rcases h:MM.has S.ops d with _ | _
 ·refine SW.g0 [0,1,2,4,5,6,7,8] mixed (And.intro (h) (ha)) ?_
  refine SW.seq ?_
  refine SW.g0 [0,1,2,4,5,6,7,8] mixed af ?_
  refine SW.ret ?_
  exact End.mk S.h0 (h4:=⟨by simp [eP,Sh.r9,h],rfl⟩) (h6:=S.ok (Nat.le_refl 7))
 ·refine SW.g0 [0,1,2,4,5,6,7,8] mixed (And.intro (h) (ha)) ?_
  refine SW.seq ?_
  refine SW.g1 [0,1,2,4,5,6,7,8] mixed af hb ?_
  refine SW.ret ?_
  exact End.mk S.h0 (h4:=⟨by simp [eP,Sh.r9,h,Sh.op,ha],rfl⟩) (h6:=S.ok (Nat.le_refl 7))
end
end
section
structure Sn where
 b:Nat
 o:Nat
 a:Nat
 l:Nat
 t:Nat
 x:Nat
 y:Nat
abbrev Sn.nl (n:Sn):List Nat:=[n.b,n.o,n.a,n.l,n.t,n.x,n.y]
abbrev Sn.ok (n:Sn):Prop:=n.nl.Nodup
def Sh.hp (S:Sh)(n:Sn):Hp:=[(n.b,.box 117 [.ptr n.t 0,.mp n.o,.mp n.a,.mp n.l]),(n.o,.map (an Dt.cells ov S.ops) S.co),(n.a,.map (an Dt.cells iv S.gf) S.ca),(n.l,.map (an Dt.cells dv S.mA) S.cl),
 (n.t,.box 166 [.mp n.x,.mp n.y]),(n.x,.map (an Dt.cells cv S.tr) S.ct),(n.y,.map (an Dt.cells ov S.md) S.cm)]
theorem Sh.CQ (S:Sh)(n:Sn)(k:Nat):Hp.aC (gx n.nl k) S.h0=S.hp n:=by
 simp only [Hp.aC,List.map_cons,List.map_nil,Ob.aC,SV.aW,SV.aC,ic,cF,nY,eC,Sh.hp]
 rfl
theorem Sh.GM (S:Sh):∀ i,i<7→lk S.h0 i≠none:=fun i hi=>by
 rcases (show i=0∨i=1∨i=2∨i=3∨i=4∨i=5∨i=6 by omega) with rfl | rfl | rfl | rfl | rfl | rfl | rfl <;> simp [aa]
theorem Sh.at_ (S:Sh){f:FuncId}{args:List SV}{r:SV}(h:SB Tryz.prog f (.ptr 0 0::args) S.h0 7 0 fun x F=>x=r∧F=S.h0)(ha:∀ ρ,SV.aW ρ args=args)(hr:∀ ρ,r.aC ρ=r)(n:Sn)(hn:n.ok)(k:Nat):
  aM Tryz.prog f (.ptr n.b 0::args) (S.hp n) k 0 r (S.hp n):=by
 have:=SB.qA n.nl h hn S.GM k
 rw [S.CQ,hr] at this
 simp only [SV.aW,SV.aC,ha] at this
 exact this
abbrev n0:Sn:=⟨0,1,2,3,4,5,6⟩
theorem pT:n0.ok:=by decide
theorem Fy (S:Sh)(d:Dt)(o:ag)(n:Sn)(hn:n.ok)(k:Nat):aM Tryz.prog shape_Shape_before.f [.ptr n.b 0,.agg d.cells,.agg o.cells] (S.hp n) k 0 (bl (S.r9 d o)) (S.hp n):=S.at_ (Fx S d o) (fun ρ=>by simp [SV.aW,SV.aC,Dt.ax,ag.ax]) (fun _=>rfl) n hn k
theorem yI (S:Sh)(d:Dt)(o:ag)(k:Nat):aM Tryz.prog shape_Shape_before.f [.ptr 0 0,.agg d.cells,.agg o.cells] S.h0 k 0 (bl (S.r9 d o)) S.h0:=Fy S d o n0 pT k
abbrev Sh.h4 (S:Sh):Hp:=[(4,.box 166 [.mp 5,.mp 6]),(5,.map (an Dt.cells cv S.tr) S.ct),(6,.map (an Dt.cells ov S.md) S.cm)]
theorem HN (S:Sh)(d:Dt)(k:Nat):aM Tryz.prog tree_Tree_Get.f [.ptr 4 0,.agg d.cells] S.h4 k 3 (.dM [.agg (S.cr d).cells,i64 (if MM.has S.tr d then 0 else 7)]) S.h4:=get_at S.HM d k
section
attribute [local irreducible] SW RW aM SC ak au
set_option maxHeartbeats 4000000 in
theorem CS (S:Sh)(o:ag):SB Tryz.prog shape_Shape_cart.f [.ptr 0 0,.agg o.cells] S.h0 7 0 fun r F=>r=bl (S.aG o)∧F=S.h0:=by
 refine shape_Shape_cart.enter (by simp [SV.ay,SV.ok]) (S.ok (Nat.le_refl 7)) (by simp) ?_
 dsimp only [shape_Shape_cart.s,Co.M,Co.G,Co.J,Co.H,Co.N,Co.F,Co.C,Co.Z,Co.B,Co.b8,Co.aB,Co.bL,Co.i6,Co.z8,Co.bU]
 obtain ⟨g,hg⟩:∃ g,(MM.get S.ops o.aG).getD ag.zero=g:=⟨_,rfl⟩
 have hS:S.aG o=if o.kind=0 then decide (o.aG=o.dot) else MM.has S.ops o.aG && (decide (g.kind=0) && (decide (g.aG=g.dot) && g.before o)):=by unfold Sh.aG Sh.op;rw [hg]
 have hb:=jH g o
 refine SW.seq ?_
 refine SW.g0 [0,1,3,4,5,6,19] mixed af ?_
 refine SW.seq ?_
 refine SW.g0 [0,1,3,4,5,6,19] mixed (hg) ?_
 refine SW.seq (SW.seq ?_)
 by_cases hk:o.kind=0
 ·have k1:(((o.kind:Nat):Int) == 0)=true:=by rw [hk];rfl
  refine SW.g0 [0,1,3,4,5,6,19] mixed (k1) ?_
  refine SW.ah rfl (SW.seq ?_)
  rw [if_pos hk] at hS
  rcases h:decide (o.aG=o.dot) with _ | _
  ·refine SW.g0 [0,1,3,4,5,6,19] mixed (h) ?_
   refine SW.ret ?_
   exact End.mk S.h0 (h4:=⟨by rw [hS,h];rfl,rfl⟩) (h6:=S.ok (Nat.le_refl 7))
  ·refine SW.g0 [0,1,3,4,5,6,19] mixed (h) ?_
   refine SW.ret ?_
   exact End.mk S.h0 (h4:=⟨by rw [hS,h];rfl,rfl⟩) (h6:=S.ok (Nat.le_refl 7))
 have k1:(((o.kind:Nat):Int) == 0)=false:=by simp;omega
 rw [if_neg hk] at hS
 refine SW.g0 [0,1,3,4,5,6,19] mixed (k1) ?_
 refine SW.aj rfl (SW.skip ?_)
 refine SW.seq ?_
 rcases h1:MM.has S.ops o.aG with _ | _
 ·refine SW.g0 [0,1,3,4,5,6,19] mixed (h1) ?_
  refine SW.ret ?_
  exact End.mk S.h0 (h4:=⟨by rw [hS,h1];rfl,rfl⟩) (h6:=S.ok (Nat.le_refl 7))
 rcases h2:(((g.kind:Nat):Int) == 0) with _ | _
 ·have e2:decide (g.kind=0)=false:=by simp at h2 ⊢;omega
  refine SW.g0 [0,1,3,4,5,6,19] mixed (And.intro (h1) (h2)) ?_
  refine SW.ret ?_
  exact End.mk S.h0 (h4:=⟨by rw [hS,h1,e2];rfl,rfl⟩) (h6:=S.ok (Nat.le_refl 7))
 have e2:decide (g.kind=0)=true:=by simp at h2 ⊢;omega
 rcases h3:decide (g.aG=g.dot) with _ | _
 ·refine SW.g0 [0,1,3,4,5,6,19] mixed (And.intro (h1) (And.intro (h2) (h3))) ?_
  refine SW.ret ?_
  exact End.mk S.h0 (h4:=⟨by rw [hS,h1,e2,h3];rfl,rfl⟩) (h6:=S.ok (Nat.le_refl 7))
 ·refine SW.g1 [0,1,3,4,5,6,19] mixed (And.intro (h1) (And.intro (h2) (h3))) hb ?_
  refine SW.ret ?_
  exact End.mk S.h0 (h4:=⟨by rw [hS,h1,e2,h3];simp [eP],rfl⟩) (h6:=S.ok (Nat.le_refl 7))
set_option maxHeartbeats 4000000 in
theorem CT (S:Sh)(d:Dt)(o:ag):SB Tryz.prog shape_Shape_cred.f [.ptr 0 0,.agg d.cells,.agg o.cells] S.h0 7 0 fun r F=>r= .dM [.agg (S.cr d).cells,bl (S.we d o)]∧F=S.h0:=by
 refine shape_Shape_cred.enter (by simp [SV.ay,SV.ok]) (S.ok (Nat.le_refl 7)) (by simp) ?_
 dsimp only [shape_Shape_cred.s,Co.M,Co.G,Co.J,Co.H,Co.N,Co.F,Co.C,Co.Z,Co.B,Co.b8,Co.aB,Co.bL,Co.i6,Co.z8,Co.bU]
 have hc:=HN S d
 have hb:=yI S d o
 obtain ⟨c,hcc⟩:∃ c,S.cr d=c:=⟨_,rfl⟩
 have hS:S.we d o=(MM.has S.tr d && (decide (c.aG=o.aG) && S.r9 d o)):=by unfold Sh.we;rw [hcc]
 rw [hcc] at hc ⊢
 refine SW.seq ?_
 refine SW.g0 [0,1,2,4,5,6,7,8,9] mixed af ?_
 refine SW.seq ?_
 rcases h1:MM.has S.tr d with _ | _
 ·simp only [h1,Bool.false_eq_true,if_false] at hc
  refine SW.g1 [0,1,2,4,5,6,7,8,9] mixed af hc ?_
  refine SW.seq ?_
  refine SW.g0 [0,1,2,4,5,6,7,8,9] mixed af ?_
  refine SW.ret ?_
  exact End.mk S.h0 (h4:=⟨by rw [hS,h1];rfl,rfl⟩) (h6:=S.ok (Nat.le_refl 7))
 simp only [h1,if_true] at hc
 refine SW.g1 [0,1,2,4,5,6,7,8,9] mixed af hc ?_
 refine SW.seq ?_
 rcases h2:decide (c.aG=o.aG) with _ | _
 ·refine SW.g0 [0,1,2,4,5,6,7,8,9] mixed (h2) ?_
  refine SW.ret ?_
  exact End.mk S.h0 (h4:=⟨by rw [hS,h1,h2];rfl,rfl⟩) (h6:=S.ok (Nat.le_refl 7))
 ·refine SW.g1 [0,1,2,4,5,6,7,8,9] mixed (h2) hb ?_
  refine SW.ret ?_
  exact End.mk S.h0 (h4:=⟨by rw [hS,h1,h2];simp [eP],rfl⟩) (h6:=S.ok (Nat.le_refl 7))
end
end
section
def _root_.Go.Sl.Cm.sv (c:Cm):List SV:=c.line.cells++c.iK.cells
section
variable (c:Cm)
theorem _root_.Go.Sl.Cm.s0:List.take 2 c.sv=c.line.cells:=rfl
theorem _root_.Go.Sl.Cm.s2:List.take 2 (List.drop 2 c.sv)=c.iK.cells:=rfl
theorem _root_.Go.Sl.Cm.zo:c.sv.length=4:=rfl
theorem _root_.Go.Sl.Cm.GN:c.sv.all SV.dG=true:=rfl
@[simp] theorem _root_.Go.Sl.Cm.Ls (q:Nat→Bool):SV.ay q c.sv=true:=rfl
@[simp] theorem _root_.Go.Sl.Cm.JB (ρ:Nat→Nat):SV.aW ρ c.sv=c.sv:=rfl
theorem _root_.Go.Sl.Cm.BL (a b:Dt):a.cells++b.cells=(⟨a,b⟩:Cm).sv:=rfl
end
def jr (k:Nat):Nat:=([0,1,1,2,2,2,4,4,2]:List Nat).getD k 0
section
attribute [local irreducible] SW RW aM SC ak au Cm.sv
set_option maxHeartbeats 4000000 in
theorem CU (S:Sh)(d:Dt)(o:ag):SB Tryz.prog shape_Shape_line.f [.ptr 0 0,.agg d.cells,.agg o.cells] S.h0 7 0 fun r F=>r=bl (S.line d o)∧F=S.h0:=by
 refine shape_Shape_line.enter (by simp [SV.ay,SV.ok]) (S.ok (Nat.le_refl 7)) (by simp) ?_
 dsimp only [shape_Shape_line.s,Co.M,Co.G,Co.J,Co.H,Co.N,Co.F,Co.C,Co.Z,Co.B,Co.b8,Co.aB,Co.bL,Co.i6,Co.z8,Co.bU]
 obtain ⟨g,hg⟩:∃ g,(MM.get S.ops d).getD ag.zero=g:=⟨_,rfl⟩
 have hS:S.line d o=(decide (0<(MM.get S.gf d).getD 0) && (decide (g.aG=o.aG) && S.r9 d o)):=by unfold Sh.line Sh.op;rw [hg]
 have hb:=yI S d o
 refine SW.seq ?_
 refine SW.g0 [0,1,2,4,5,6] mixed af ?_
 refine SW.seq ?_
 rcases h1:decide (0<(MM.get S.gf d).getD 0) with _ | _
 ·have g1:decide ((MM.get S.gf d).getD 0>0)=false:=h1
  refine SW.g0 [0,1,2,4,5,6] mixed (g1) ?_
  refine SW.ret ?_
  exact End.mk S.h0 (h4:=⟨by rw [hS,h1];rfl,rfl⟩) (h6:=S.ok (Nat.le_refl 7))
 have g1:decide ((MM.get S.gf d).getD 0>0)=true:=h1
 rcases h2:decide (g.aG=o.aG) with _ | _
 ·refine SW.g0 [0,1,2,4,5,6] mixed (And.intro (g1) (And.intro (hg) (h2))) ?_
  refine SW.ret ?_
  exact End.mk S.h0 (h4:=⟨by rw [hS,h1,h2];rfl,rfl⟩) (h6:=S.ok (Nat.le_refl 7))
 ·refine SW.g1 [0,1,2,4,5,6] mixed (And.intro (g1) (And.intro (hg) (h2))) hb ?_
  refine SW.ret ?_
  exact End.mk S.h0 (h4:=⟨by rw [hS,h1,h2];simp [eP],rfl⟩) (h6:=S.ok (Nat.le_refl 7))
theorem zU (S:Sh)(d:Dt)(o:ag)(k:Nat):aM Tryz.prog shape_Shape_line.f [.ptr 0 0,.agg d.cells,.agg o.cells] S.h0 k 0 (bl (S.line d o)) S.h0:=
 S.at_ (CU S d o) (fun ρ=>by simp [SV.aW,SV.aC,Dt.ax,ag.ax]) (fun _=>rfl) n0 pT k
set_option maxHeartbeats 4000000 in
theorem Fz (S:Sh)(c:Cm)(o:ag):SB Tryz.prog shape_Shape_claim.f [.ptr 0 0,.agg c.sv,.agg o.cells] S.h0 7 0 fun r F=>r=bl (S.qN c o)∧F=S.h0:=by
 refine shape_Shape_claim.enter (by simp [SV.ay,SV.ok]) (S.ok (Nat.le_refl 7)) (by simp) ?_
 dsimp only [shape_Shape_claim.s,Co.M,Co.G,Co.J,Co.H,Co.N,Co.F,Co.C,Co.Z,Co.B,Co.b8,Co.aB,Co.bL,Co.i6,Co.z8,Co.bU]
 have c0:=c.s0
 have c2:=c.s2
 have cl:=c.zo
 have c1:=c.GN
 obtain ⟨v,hv⟩:∃ v,(MM.get S.mA c.iK).getD ⟨0,0⟩=v:=⟨_,rfl⟩
 have hS:S.qN c o=(S.line c.line o && (decide (c.iK=c.line) || (MM.has S.mA c.iK && (decide (v=c.line) && S.r9 c.iK o)))):=by unfold Sh.qN;rw [hv]
 have hl:=zU S c.line o
 have hb:=yI S c.iK o
 have lkd:=Fv S.mA c.iK
 refine SW.seq ?_
 refine SW.g0 [0,1,2,4,5,6,7,8] mixed (c1) ?_
 refine SW.seq ?_
 refine SW.g0 [0,1,2,4,5,6,7,8] mixed (And.intro (c0) (And.intro (c2) (And.intro (cl) (And.intro (lkd) (hv))))) ?_
 refine SW.seq ?_
 rcases h1:S.line c.line o with _ | _
 ·rw [h1] at hl
  refine SW.g2 [0,1,2,4,5,6,7,8] mixed (And.intro (c0) (And.intro (c2) (cl))) hl hb ?_
  refine SW.ret ?_
  exact End.mk S.h0 (h4:=⟨by rw [hS,h1];rfl,rfl⟩) (h6:=S.ok (Nat.le_refl 7))
 rw [h1] at hl
 rcases h2:decide (c.iK=c.line) with _ | _
 rotate_left
 ·refine SW.g2 [0,1,2,4,5,6,7,8] mixed (And.intro (c0) (And.intro (c2) (And.intro (cl) (h2)))) hl hb ?_
  refine SW.ret ?_
  exact End.mk S.h0 (h4:=⟨by rw [hS,h1,h2];rfl,rfl⟩) (h6:=S.ok (Nat.le_refl 7))
 rcases h3:MM.has S.mA c.iK with _ | _
 ·refine SW.g2 [0,1,2,4,5,6,7,8] mixed (And.intro (c0) (And.intro (c2) (And.intro (cl) (And.intro (h2) (h3))))) hl hb ?_
  refine SW.ret ?_
  exact End.mk S.h0 (h4:=⟨by rw [hS,h1,h2,h3];rfl,rfl⟩) (h6:=S.ok (Nat.le_refl 7))
 rcases h4:decide (v=c.line) with _ | _
 ·refine SW.g2 [0,1,2,4,5,6,7,8] mixed (And.intro (c0) (And.intro (c2) (And.intro (cl) (And.intro (h2) (And.intro (h3) (h4)))))) hl hb ?_
  refine SW.ret ?_
  exact End.mk S.h0 (h4:=⟨by rw [hS,h1,h2,h3,h4];rfl,rfl⟩) (h6:=S.ok (Nat.le_refl 7))
 ·refine SW.g2 [0,1,2,4,5,6,7,8] mixed (And.intro (c0) (And.intro (c2) (And.intro (cl) (And.intro (h2) (And.intro (h3) (h4)))))) hl hb ?_
  refine SW.ret ?_
  exact End.mk S.h0 (h4:=⟨by rw [hS,h1,h2,h3,h4];simp [eP],rfl⟩) (h6:=S.ok (Nat.le_refl 7))
theorem CV (S:Sh)(c:Cm)(o:ag)(k:Nat):aM Tryz.prog shape_Shape_claim.f [.ptr 0 0,.agg c.sv,.agg o.cells] S.h0 k 0 (bl (S.qN c o)) S.h0:=
 S.at_ (Fz S c o) (fun ρ=>by simp [SV.aW,SV.aC,ag.ax]) (fun _=>rfl) n0 pT k
theorem CW (k:Nat)(hk:k<256):Go.Sl.Pure Tryz.prog shape_Needs.f [u8 k] (.d (.int .u8 (jr k))):=by
 refine shape_Needs.enter (by first | rfl | simp [SV.ok,SV.ay]) (by first | rfl | simp [Hp.ok,Ob.ok,SV.ok,SV.ay,aL.ai]) (by simp) ?_
 dsimp only [shape_Needs.s,Co.M,Co.G,Co.J,Co.H,Co.N,Co.F,Co.C,Co.Z,Co.B,Co.b8,Co.aB,Co.bL,Co.i6,Co.z8,Co.bU]
 refine SW.seq ?_
 refine SW.g0 [0,2,3,7] mixed af ?_
 refine SW.seq ?_
 have hb:cU (cU (cU (cU (cU (cU (cU (cU [SV.d (.int .u8 0),.d (.int .u8 0),.d (.int .u8 0),.d (.int .u8 0),.d (.int .u8 0),.d (.int .u8 0),.d (.int .u8 0),.d (.int .u8 0),.d (.int .u8 0)] 1 [.d (.int .u8 1)]) 2 [.d (.int .u8 1)]) 3 [.d (.int .u8 2)]) 4 [.d (.int .u8 2)]) 5 [.d (.int .u8 2)]) 6 [.d (.int .u8 4)]) 7 [.d (.int .u8 4)]) 8 [.d (.int .u8 2)]=[.d (.int .u8 0),.d (.int .u8 1),.d (.int .u8 1),.d (.int .u8 2),.d (.int .u8 2),.d (.int .u8 2),.d (.int .u8 4),.d (.int .u8 4),.d (.int .u8 2)]:=rfl
 have EF:∀ z:List SV,z.length=9→cU z 0 [SV.d (.int .u8 0),.d (.int .u8 1),.d (.int .u8 1),.d (.int .u8 2),.d (.int .u8 2),.d (.int .u8 2),.d (.int .u8 4),.d (.int .u8 4),.d (.int .u8 2)]=[.d (.int .u8 0),.d (.int .u8 1),.d (.int .u8 1),.d (.int .u8 2),.d (.int .u8 2),.d (.int .u8 2),.d (.int .u8 4),.d (.int .u8 4),.d (.int .u8 2)]:=fun z hz=>by
  match z,hz with
  | [_,_,_,_,_,_,_,_,_],_=>rfl
 have hb3:=EF [SV.d (.int .u8 0),.d (.int .u8 0),.d (.int .u8 0),.d (.int .u8 0),.d (.int .u8 0),.d (.int .u8 0),.d (.int .u8 0),.d (.int .u8 0),.d (.int .u8 0)] rfl
 refine SW.g0 [0,2,3,7] mixed (And.intro (hb) (hb3)) ?_
 have e8:IntKind.i64.wrap (k:Int)=(k:Int):=wrap_i64 _ (by omega)
 refine SW.seq (SW.seq ?_)
 by_cases h:k<9
 ·have h1:decide ((k:Int)≥9)=false:=by simp only [decide_eq_false_iff_not];omega
  refine SW.g0 [0,2,3,7] mixed (And.intro (e8) (h1)) ?_
  refine SW.aj rfl (SW.skip ?_)
  refine SW.seq ?_
  have hg:([SV.d (.int .u8 0),.d (.int .u8 1),.d (.int .u8 1),.d (.int .u8 2),.d (.int .u8 2),.d (.int .u8 2),.d (.int .u8 4),.d (.int .u8 4),.d (.int .u8 2)]:List SV)[k]? =some (.d (.int .u8 (jr k))):=by
   match k,h with
   | 0,_ | 1,_ | 2,_ | 3,_ | 4,_ | 5,_ | 6,_ | 7,_ | 8,_=>rfl
  refine SW.g0 [0,2,3,7] mixed (hg) ?_
  refine SW.ret ?_
  exact End.mk [] (h4:=⟨rfl,rfl⟩)
 ·have h1:decide ((k:Int)≥9)=true:=by simp only [decide_eq_true_eq];omega
  have e:jr k=0:=by unfold jr;simp [List.getD];rw [List.getElem?_eq_none (by simp;omega)];rfl
  rw [e]
  refine SW.g0 [0,2,3,7] mixed (And.intro (e8) (h1)) ?_
  refine SW.ah rfl (SW.seq ?_)
  refine SW.g0 [0,2,3,7] mixed af ?_
  refine SW.ret ?_
  exact End.mk [] (h4:=⟨rfl,rfl⟩)
theorem CX (k:Nat)(hk:k<256)(j:Nat):aM Tryz.prog shape_Needs.f [u8 k] [] j 0 (.d (.int .u8 (jr k))) []:=(CW k hk).sc rfl j
end
end
section
theorem sn {l:List Cm}{i:Nat}{x:Cm}(h:l[i]? =some x):List.take 4 (List.drop (i*4) (List.map SV.d (l.flatMap Cm.ds)))=x.sv:=by
 rw [← List.map_drop,← List.map_take,kO Cm.ds 4 (fun _=>rfl) l i x h]
 rfl
theorem vt {l:List Cm}{i:Nat}{x:Cm}(h:l[i]? =some x):(i*4+4≤(List.map SV.d (l.flatMap Cm.ds)).length)=True:=eq_true (by
 rw [List.length_map,vT]
 have:=(List.getElem?_eq_some_iff.1 h).1
 omega)
def wg (p:Cm→Bool)(l:List Cm):Int:=match l.findIdx? p with
 | some i=>i
 | none=> -1
theorem CY {p:Cm→Bool}:∀ {l:List Cm} {i:Nat} {x:Cm},(∀ y,y∈l.take i→p y=false)→l[i]? =some x→p x=true→wg p l=i:=by
 intro l i x h1 h2 h3
 have:l.findIdx? p=some i:=by
  rw [List.findIdx?_eq_some_iff_getElem]
  obtain ⟨hi,e⟩:=List.getElem?_eq_some_iff.1 h2
  refine ⟨hi,by rw [e];exact h3,fun j hj=> ?_⟩
  have:=h1 l[j] (List.mem_take_iff_getElem.2 ⟨j,by omega,rfl⟩)
  simp [this]
 unfold wg;rw [this]
theorem A3 {p:Cm→Bool}{l:List Cm}(h:∀ y,y∈l→p y=false):wg p l= -1:=by
 have:l.findIdx? p=none:=by rw [List.findIdx?_eq_none_iff];exact h
 unfold wg;rw [this]
theorem CZ (p:Cm→Bool)(l:List Cm):decide (wg p l≥0)=l.any p:=by
 unfold wg
 cases h:l.findIdx? p with
 | none=>
  have h1:=List.findIdx?_eq_none_iff.1 h
  have:l.any p=false:=by rw [List.any_eq_false];intro x hx;rw [h1 x hx];simp
  rw [this];rfl
 | some i=>
  obtain ⟨hi,h2,_⟩:=List.findIdx?_eq_some_iff_getElem.1 h
  have:l.any p=true:=by rw [List.any_eq_true];exact ⟨_,List.getElem_mem hi,h2⟩
  rw [this];simp
abbrev Sh.ht (S:Sh)(o:ag):Hp:=(8,.box 43 o.cells)::(7,.box 29 [.ptr 0 0])::S.h0
theorem Sh.iz (S:Sh)(o:ag){k:Nat}(h:9≤k):(S.ht o).ok (fun n=>decide (n<k))=true:=by
 have:=S.ok (k:=k) (by omega)
 simp only [Sh.ht,Hp.ok,List.all_cons,Ob.ok,ag.ai,SV.ay,SV.ok,Bool.and_true,Bool.and_eq_true,decide_eq_true_eq] at this ⊢
 exact ⟨by omega,⟨by omega,by omega⟩,this⟩
theorem Sh.HO (S:Sh)(o:ag)(k:Nat):Hp.aC (gx [0,1,2,3,4,5,6,7,8] k) (S.ht o)=S.ht o:=by
 simp only [Hp.aC,List.map_cons,List.map_nil,Ob.aC,SV.aW,SV.aC,ic,cF,nY,eC,ag.ax]
 rfl
theorem Sh.JC (S:Sh)(o:ag):∀ i,i<9→lk (S.ht o) i≠none:=fun i hi=>by
 rcases (show i=0∨i=1∨i=2∨i=3∨i=4∨i=5∨i=6∨i=7∨i=8 by omega) with rfl | rfl | rfl | rfl | rfl | rfl | rfl | rfl | rfl <;> simp [aa]
theorem Sh.IN (S:Sh)(o:ag){f:FuncId}{args:List SV}{r:SV}(h:SB Tryz.prog f args (S.ht o) 9 0 fun x F=>x=r∧F=S.ht o)(k:Nat)(ha:SV.aW (gx [0,1,2,3,4,5,6,7,8] k) args=args)(hr:∀ ρ,r.aC ρ=r):
  aM Tryz.prog f args (S.ht o) k 0 r (S.ht o):=by
 have:=SB.qA [0,1,2,3,4,5,6,7,8] h (by decide) (S.JC o) k
 rw [S.HO,ha,hr] at this
 exact this
def Sh.tgt (S:Sh)(o:ag)(ab:Bool):Bool:=
 if o.kind=2 then S.we o.at_ o && ab else if o.kind=4∨o.kind=5 then S.line o.at_ o else if o.kind=6∨o.kind=7 then S.qN ⟨o.at_,o.iK⟩ o else if o.kind=8 then !(o.cl.any fun c=> !S.qN c o) else true
section
attribute [local irreducible] SW RW aM SC ak au Cm.sv
set_option maxHeartbeats 4000000 in
theorem FA (S:Sh)(o:ag)(c:Cm):SB Tryz.prog shape_Shape_target_1.f [.agg c.sv,.ptr 7 0,.ptr 8 0] (S.ht o) 9 0 fun r F=>r=bl (!S.qN c o)∧F=S.ht o:=by
 refine shape_Shape_target_1.enter (by simp [SV.ay,SV.ok]) (S.iz o (Nat.le_refl 9)) (by simp) ?_
 dsimp only [shape_Shape_target_1.s,Co.M,Co.G,Co.J,Co.H,Co.N,Co.F,Co.C,Co.Z,Co.B,Co.b8,Co.aB,Co.bL,Co.i6,Co.z8,Co.bU]
 have c1:=c.GN
 have cl:=c.zo
 have c4:List.take 4 c.sv=c.sv:=by rw [← cl];exact List.take_length
 have hc:=CV S c o
 refine SW.seq ?_
 refine SW.g0 [0,1,2,3,4] mixed (c1) ?_
 refine SW.seq ?_
 rcases h:S.qN c o with _ | _ <;> rw [h] at hc
 ·refine SW.g1 [0,1,2,3,4] mixed (And.intro (cl) (c4)) hc ?_
  refine SW.ret ?_
  exact End.mk (S.ht o) (h4:=⟨rfl,rfl⟩) (h6:=S.iz o (Nat.le_refl 9))
 ·refine SW.g1 [0,1,2,3,4] mixed (And.intro (cl) (c4)) hc ?_
  refine SW.ret ?_
  exact End.mk (S.ht o) (h4:=⟨rfl,rfl⟩) (h6:=S.iz o (Nat.le_refl 9))
theorem FB (S:Sh)(o:ag)(c:Cm)(k:Nat):aM Tryz.prog shape_Shape_target_1.f [.agg c.sv,.ptr 7 0,.ptr 8 0] (S.ht o) k 0 (bl (!S.qN c o)) (S.ht o):=
 S.IN o (FA S o c) k (by simp only [SV.aW,SV.aC,Cm.JB];rfl) (fun _=>rfl)
set_option maxHeartbeats 4000000 in
theorem FC (S:Sh)(o:ag)(l:List Cm)(hl:l.length≤9223372036854775807):SB Tryz.prog slices_IndexFunc_Lapi_Claim_api_Claim.f [.d (.sl l.length (l.flatMap Cm.ds)),.fn (.func shape_Shape_target_1.f) [] [.ptr 7 0,.ptr 8 0]] (S.ht o) 9 0 fun r F=>r= .d (.int .i64 (wg (fun c=> !S.qN c o) l))∧F=S.ht o:=by
 refine slices_IndexFunc_Lapi_Claim_api_Claim.enter (by simp [SV.ay,SV.ok]) (S.iz o (Nat.le_refl 9)) (by simp) ?_
 dsimp only [slices_IndexFunc_Lapi_Claim_api_Claim.s,Co.M,Co.G,Co.J,Co.H,Co.N,Co.F,Co.C,Co.Z,Co.B,Co.b8,Co.aB,Co.bL,Co.i6,Co.z8,Co.bU]
 refine SW.seq ?_
 refine SW.g0 [0,1,4,5,7,8,9,16] mixed af ?_
 refine SW.seq (SW.seq ?_)
 refine SW.g0 [0,1,4,5,7,8,9,16] mixed af ?_
 have nd:((S.ht o).map (·.1)).Nodup:=by simp
 refine SW.block (SW.loop (α:={i:Nat // i≤l.length∧∀ y,y∈l.take i→(!S.qN y o)=false}) (fun i=>⟨[(8,i64 i.1),(7,i64 l.length),(0,.d (.sl l.length (l.flatMap Cm.ds))),(1,.fn (.func shape_Shape_target_1.f) [] [.ptr 7 0,.ptr 8 0]),(4,.d (.int .i64 0))],S.ht o,9⟩) (fun i=>l.length - i.1) ⟨0,by omega,by simp⟩ id ?_ ?_)
 ·exact aJ.same (by simp) (by simp [aY,List.lookup,SV.aC,SV.aW,SV.ok,SV.ay]) (S.iz o (Nat.le_refl 9)) (aH nd)
 rintro ⟨i,hi,hall⟩
 dsimp only
 by_cases h:i<l.length
 ·have h1:decide ((i:Int)<l.length)=true:=by simp only [decide_eq_true_eq];omega
  obtain ⟨x,hx⟩:=br h
  have e2:IntKind.i64.wrap ((i:Int)+1)=((i+1:Nat):Int):=wrap_i64 _ (by omega)
  have hc:=FB S o x
  refine SW.seq ?_
  refine SW.g0 [0,1,4,5,7,8,9,16] mixed (h1) ?_
  refine SW.seq (SW.ah rfl (SW.skip ?_))
  refine SW.seq (SW.block (SW.seq ?_))
  refine SW.g0 [0,1,4,5,7,8,9,16] mixed af ?_
  refine SW.seq ?_
  rcases h2:S.qN x o with _ | _ <;> rw [h2] at hc
  ·refine SW.g1 [0,1,4,5,7,8,9,16] mixed (And.intro (sn hx) (vt hx)) hc ?_
   refine SW.ah rfl (SW.seq ?_)
   refine SW.g0 [0,1,4,5,7,8,9,16] mixed af ?_
   refine SW.ret ?_
   exact End.mk (S.ht o) (h4:=⟨by rw [CY hall hx (by rw [h2];rfl)];rfl,rfl⟩) (h6:=S.iz o (Nat.le_refl 9))
  ·
   refine SW.g1 [0,1,4,5,7,8,9,16] mixed (And.intro (sn hx) (vt hx)) hc ?_
   refine SW.aj rfl (SW.skip ?_)
   refine SW.g0 [0,1,4,5,7,8,9,16] mixed (e2) ?_
   exact ⟨⟨i+1,by omega,fun y hy=>by rw [f_ hx,List.mem_append,List.mem_singleton] at hy;exact hy.elim (hall y) fun e=>by rw [e,h2];rfl⟩,id,by simp;omega,aJ.same (by simp) (by simp [aY,List.lookup,SV.aC,SV.aW,SV.ok,SV.ay]) (S.iz o (Nat.le_refl 9)) (aH nd)⟩
 ·have h1:decide ((i:Int)<l.length)=false:=by simp only [decide_eq_false_iff_not];omega
  have hi2:i=l.length:=by omega
  subst hi2
  rw [List.take_length] at hall
  refine SW.seq ?_
  refine SW.g0 [0,1,4,5,7,8,9,16] mixed (h1) ?_
  refine SW.seq (SW.aj rfl (SW.exit ?_))
  refine (?_:Sl.SW _ _ _ _ _ _)
  refine SW.seq ?_
  refine SW.g0 [0,1,4,5,7,8,9,16] mixed af ?_
  refine SW.ret ?_
  exact End.mk (S.ht o) (h4:=⟨by rw [A3 hall];rfl,rfl⟩) (h6:=S.iz o (Nat.le_refl 9))
end
end
section
section
attribute [local irreducible] SW RW aM SC ak au Cm.sv
theorem FD (S:Sh)(o:ag)(l:List Cm)(hl:l.length≤9223372036854775807)(k:Nat):aM Tryz.prog slices_IndexFunc_Lapi_Claim_api_Claim.f [.d (.sl l.length (l.flatMap Cm.ds)),.fn (.func 175) [] [.ptr 7 0,.ptr 8 0]] (S.ht o) k 0 (.d (.int .i64 (wg (fun c=> !S.qN c o) l))) (S.ht o):=
 S.IN o (FC S o l hl) k rfl (fun _=>rfl)
set_option maxHeartbeats 4000000 in
theorem C0 (S:Sh)(o:ag)(l:List Cm)(hl:l.length≤9223372036854775807):SB Tryz.prog slices_ContainsFunc_Lapi_Claim_api_Claim.f [.d (.sl l.length (l.flatMap Cm.ds)),.fn (.func 175) [] [.ptr 7 0,.ptr 8 0]] (S.ht o) 9 0 fun r F=>r=bl (l.any fun c=> !S.qN c o)∧F=S.ht o:=by
 refine slices_ContainsFunc_Lapi_Claim_api_Claim.enter (by simp [SV.ay,SV.ok]) (S.iz o (Nat.le_refl 9)) (by simp) ?_
 dsimp only [slices_ContainsFunc_Lapi_Claim_api_Claim.s,Co.M,Co.G,Co.J,Co.H,Co.N,Co.F,Co.C,Co.Z,Co.B,Co.b8,Co.aB,Co.bL,Co.i6,Co.z8,Co.bU]
 have hc:=FD S o l hl
 have ha:=CZ (fun c=> !S.qN c o) l
 obtain ⟨z,hz⟩:∃ z,wg (fun c=> !S.qN c o) l=z:=⟨_,rfl⟩
 obtain ⟨b,hb⟩:∃ b,(l.any fun c=> !S.qN c o)=b:=⟨_,rfl⟩
 rw [hz,hb] at ha
 rw [hz] at hc
 rw [hb]
 refine SW.seq ?_
 refine SW.g0 [0,1,4] mixed af ?_
 refine SW.seq ?_
 refine SW.g1 [0,1,4] mixed (ha) hc ?_
 refine SW.ret ?_
 exact End.mk (S.ht o) (h4:=⟨rfl,rfl⟩) (h6:=S.iz o (Nat.le_refl 9))
theorem C5 (S:Sh)(o:ag)(l:List Cm)(hl:l.length≤9223372036854775807)(k:Nat):aM Tryz.prog slices_ContainsFunc_Lapi_Claim_api_Claim.f [.d (.sl l.length (l.flatMap Cm.ds)),.fn (.func 175) [] [.ptr 7 0,.ptr 8 0]] (S.ht o) k 0 (bl (l.any fun c=> !S.qN c o)) (S.ht o):=
 S.IN o (C0 S o l hl) k rfl (fun _=>rfl)
theorem zV (S:Sh)(d:Dt)(o:ag)(k:Nat):aM Tryz.prog shape_Shape_cred.f [.ptr 0 0,.agg d.cells,.agg o.cells] S.h0 k 0 (.dM [.agg (S.cr d).cells,bl (S.we d o)]) S.h0:=
 S.at_ (CT S d o) (fun ρ=>by simp [SV.aW,SV.aC,Dt.ax,ag.ax]) (fun ρ=>by simp [SV.aW,SV.aC,Cr.ax]) n0 pT k
set_option maxHeartbeats 8000000 in
theorem FE (S:Sh)(o:ag)(hk:o.kind<256)(FF:o.ow)(ab:Bool)(m:Nat)(hab:∀ k,aM Tryz.prog tree_Tree_Above.f [.ptr 4 0,.agg o.aK.cells,.agg o.at_.cells] S.h4 k m (bl ab) S.h4):
  SB Tryz.prog shape_Shape_target.f [.ptr 0 0,.agg o.cells] S.h0 7 0 fun r F=>r=bl (S.tgt o ab)∧F=S.h0:=by
 refine shape_Shape_target.enter (by simp [SV.ay,SV.ok]) (S.ok (Nat.le_refl 7)) (by simp) ?_
 dsimp only [shape_Shape_target.s,Co.M,Co.G,Co.J,Co.H,Co.N,Co.F,Co.C,Co.Z,Co.B,Co.b8,Co.aB,Co.bL,Co.i6,Co.z8,Co.bU]
 have h6:=S.ok (Nat.le_refl 7)
 refine SW.seq ?_
 refine SW.g0 [0,1,2,3,4,6,8,9,31,39,50] mixed af ?_
 refine SW.seq (SW.seq ?_)
 refine SW.g0 [0,1,2,3,4,6,8,9,31,39,50] mixed af ?_
 refine SW.block (SW.seq ?_)
 by_cases k2:o.kind=2
 ·have q2:(((o.kind:Nat):Int) == 2)=true:=by rw [k2];rfl
  have e:S.tgt o ab=(S.we o.at_ o && ab):=by unfold Sh.tgt;rw [if_pos k2]
  rw [e]
  have hc:=zV S o.at_ o
  obtain ⟨c,hcc⟩:∃ c,S.cr o.at_=c:=⟨_,rfl⟩
  rw [hcc] at hc
  refine SW.g0 [0,1,2,3,4,6,8,9,31,39,50] mixed (q2) ?_
  refine SW.ah rfl (SW.seq ?_)
  refine SW.g1 [0,1,2,3,4,6,8,9,31,39,50] mixed af hc ?_
  refine SW.seq ?_
  rcases h:S.we o.at_ o with _ | _
  ·refine SW.g1 [0,1,2,3,4,6,8,9,31,39,50] mixed af hab ?_
   refine SW.ret ?_
   exact End.mk S.h0 (h4:=⟨rfl,rfl⟩) (h6:=h6)
  ·refine SW.g1 [0,1,2,3,4,6,8,9,31,39,50] mixed af hab ?_
   refine SW.ret ?_
   exact End.mk S.h0 (h4:=⟨rfl,rfl⟩) (h6:=h6) (h7:=by show 7+0≤10+m;omega)
 have q2:(((o.kind:Nat):Int) == 2)=false:=by simp;omega
 refine SW.g0 [0,1,2,3,4,6,8,9,31,39,50] mixed (q2) ?_
 refine SW.aj rfl (SW.seq (SW.seq ?_))
 by_cases k45:o.kind=4∨o.kind=5
 ·have e:S.tgt o ab=S.line o.at_ o:=by unfold Sh.tgt;rw [if_neg k2,if_pos k45]
  rw [e]
  have hl:=zU S o.at_ o
  rcases k45 with k4 | k5
  ·have q4:(((o.kind:Nat):Int) == 4)=true:=by rw [k4];rfl
   refine SW.g0 [0,1,2,3,4,6,8,9,31,39,50] mixed (q4) ?_
   refine SW.ah rfl (SW.skip ?_)
   refine SW.ah rfl (SW.seq ?_)
   refine SW.g1 [0,1,2,3,4,6,8,9,31,39,50] mixed af hl ?_
   refine SW.ret ?_
   exact End.mk S.h0 (h4:=⟨rfl,rfl⟩) (h6:=h6)
  ·have q4:(((o.kind:Nat):Int) == 4)=false:=by simp;omega
   have q5:(((o.kind:Nat):Int) == 5)=true:=by rw [k5];rfl
   refine SW.g0 [0,1,2,3,4,6,8,9,31,39,50] mixed (q4) ?_
   refine SW.aj rfl ?_
   refine SW.g0 [0,1,2,3,4,6,8,9,31,39,50] mixed (q5) ?_
   refine SW.ah rfl (SW.seq ?_)
   refine SW.g1 [0,1,2,3,4,6,8,9,31,39,50] mixed af hl ?_
   refine SW.ret ?_
   exact End.mk S.h0 (h4:=⟨rfl,rfl⟩) (h6:=h6)
 have q4:(((o.kind:Nat):Int) == 4)=false:=by simp;omega
 have q5:(((o.kind:Nat):Int) == 5)=false:=by simp;omega
 refine SW.g0 [0,1,2,3,4,6,8,9,31,39,50] mixed (q4) ?_
 refine SW.aj rfl ?_
 refine SW.g0 [0,1,2,3,4,6,8,9,31,39,50] mixed (q5) ?_
 refine SW.aj rfl (SW.seq (SW.seq ?_))
 by_cases k67:o.kind=6∨o.kind=7
 ·have e:S.tgt o ab=S.qN ⟨o.at_,o.iK⟩ o:=by unfold Sh.tgt;rw [if_neg k2,if_neg k45,if_pos k67]
  rw [e]
  have hl:=CV S ⟨o.at_,o.iK⟩ o
  have hb:=Cm.BL o.at_ o.iK
  rcases k67 with k6 | k7
  ·have q6:(((o.kind:Nat):Int) == 6)=true:=by rw [k6];rfl
   refine SW.g0 [0,1,2,3,4,6,8,9,31,39,50] mixed (q6) ?_
   refine SW.ah rfl (SW.skip ?_)
   refine SW.ah rfl (SW.seq ?_)
   refine SW.g1 [0,1,2,3,4,6,8,9,31,39,50] mixed (hb) hl ?_
   refine SW.ret ?_
   exact End.mk S.h0 (h4:=⟨rfl,rfl⟩) (h6:=h6)
  ·have q6:(((o.kind:Nat):Int) == 6)=false:=by simp;omega
   have q7:(((o.kind:Nat):Int) == 7)=true:=by rw [k7];rfl
   refine SW.g0 [0,1,2,3,4,6,8,9,31,39,50] mixed (q6) ?_
   refine SW.aj rfl ?_
   refine SW.g0 [0,1,2,3,4,6,8,9,31,39,50] mixed (q7) ?_
   refine SW.ah rfl (SW.seq ?_)
   refine SW.g1 [0,1,2,3,4,6,8,9,31,39,50] mixed (hb) hl ?_
   refine SW.ret ?_
   exact End.mk S.h0 (h4:=⟨rfl,rfl⟩) (h6:=h6)
 have q6:(((o.kind:Nat):Int) == 6)=false:=by simp;omega
 have q7:(((o.kind:Nat):Int) == 7)=false:=by simp;omega
 refine SW.g0 [0,1,2,3,4,6,8,9,31,39,50] mixed (q6) ?_
 refine SW.aj rfl ?_
 refine SW.g0 [0,1,2,3,4,6,8,9,31,39,50] mixed (q7) ?_
 refine SW.aj rfl (SW.seq ?_)
 by_cases k8:o.kind=8
 ·have e:S.tgt o ab= !(o.cl.any fun c=> !S.qN c o):=by unfold Sh.tgt;rw [if_neg k2,if_neg k45,if_neg k67,if_pos k8]
  rw [e]
  have q8:(((o.kind:Nat):Int) == 8)=true:=by rw [k8];rfl
  have hcf:=C5 S o o.cl FF.le
  have hle:=FF.eq
  obtain ⟨b,hb⟩:∃ b,(o.cl.any fun c=> !S.qN c o)=b:=⟨_,rfl⟩
  rw [hb] at hcf ⊢
  refine SW.g0 [0,1,2,3,4,6,8,9,31,39,50] mixed (q8) ?_
  refine SW.ah rfl (SW.seq ?_)
  rcases b with _ | _
  ·refine SW.g1 [0,1,2,3,4,6,8,9,31,39,50] mixed (hle) hcf ?_
   refine SW.ret ?_
   exact End.mk S.h0 (h4:=⟨rfl,rfl⟩) (h6:=h6)
  ·refine SW.g1 [0,1,2,3,4,6,8,9,31,39,50] mixed (hle) hcf ?_
   refine SW.ret ?_
   exact End.mk S.h0 (h4:=⟨rfl,rfl⟩) (h6:=h6)
 have q8:(((o.kind:Nat):Int) == 8)=false:=by simp;omega
 have e:S.tgt o ab=true:=by unfold Sh.tgt;rw [if_neg k2,if_neg k45,if_neg k67,if_neg k8]
 rw [e]
 refine SW.g0 [0,1,2,3,4,6,8,9,31,39,50] mixed (q8) ?_
 refine SW.aj rfl (SW.skip ?_)
 refine SW.seq ?_
 refine SW.g0 [0,1,2,3,4,6,8,9,31,39,50] mixed af ?_
 refine SW.ret ?_
 exact End.mk S.h0 (h4:=⟨rfl,rfl⟩) (h6:=h6)
theorem HP (S:Sh)(o:ag)(hk:o.kind<256)(FF:o.ow)(ab:Bool)(m:Nat)(hab:∀ k,aM Tryz.prog tree_Tree_Above.f [.ptr 4 0,.agg o.aK.cells,.agg o.at_.cells] S.h4 k m (bl ab) S.h4)(k:Nat):
  aM Tryz.prog shape_Shape_target.f [.ptr 0 0,.agg o.cells] S.h0 k 0 (bl (S.tgt o ab)) S.h0:=
 S.at_ (FE S o hk FF ab m hab) (fun ρ=>by simp [SV.aW,SV.aC,ag.ax]) (fun _=>rfl) n0 pT k
end
end
section
def mU (c:Cr)(kind:Nat):Bool:=bits .and .u8 (c.bp:Int) (jr kind:Int) != (jr kind:Int)
theorem HQ (a:Cr)(o:ag)(g:Bool)(k:Nat):Hp.aC (gx [11,9,8] k) [(0,.box 4 [bl g]),(1,.box 158 a.cells),(2,.box 43 o.cells)]=[(11,.box 4 [bl g]),(9,.box 158 a.cells),(8,.box 43 o.cells)]:=by
 simp only [Hp.aC,List.map_cons,List.map_nil,Ob.aC,SV.aW,SV.aC,ag.ax,Cr.ax];rfl
theorem HR (a:Cr)(o:ag)(k:Nat):Hp.aC (gx [9,8] k) [(0,.box 158 a.cells),(1,.box 43 o.cells)]=[(9,.box 158 a.cells),(8,.box 43 o.cells)]:=by
 simp only [Hp.aC,List.map_cons,List.map_nil,Ob.aC,SV.aW,SV.aC,ag.ax,Cr.ax];rfl
section
attribute [local irreducible] SW RW aM SC ak au jr
theorem C6 (o:ag):SB Tryz.prog shape_Shape_Why_1.f [.ptr 0 0] [(0,.box 43 o.cells)] 1 0 fun r F=>r=bl (decide ((o.kind:Int)>8))∧F=[(0,.box 43 o.cells)]:=by
 refine shape_Shape_Why_1.enter (by first | rfl | simp [SV.ok,SV.ay]) (by first | rfl | simp [Hp.ok,Ob.ok,SV.ok,SV.ay,aL.ai]) (by simp) ?_
 dsimp only [shape_Shape_Why_1.s,Co.M,Co.G,Co.J,Co.H,Co.N,Co.F,Co.C,Co.Z,Co.B,Co.b8,Co.aB,Co.bL,Co.i6,Co.z8,Co.bU]
 refine SW.seq ?_
 refine SW.g0 [0,1] mixed af ?_
 refine SW.seq ?_
 refine SW.g0 [0,1] mixed af ?_
 refine SW.ret ?_
 exact End.mk [(0,.box 43 o.cells)] (h4:=⟨rfl,rfl⟩)
theorem C7 (o:ag)(k:Nat):aM Tryz.prog shape_Shape_Why_1.f [.ptr 8 0] [(8,.box 43 o.cells)] k 0 (bl (decide ((o.kind:Int)>8))) [(8,.box 43 o.cells)]:=by
 have:=SB.qA [8] (C6 o) (by decide) (fun i hi=>by rw [show i=0 by simp at hi;omega];simp [aa]) k
 simp only [Hp.aC,List.map_cons,List.map_nil,Ob.aC,SV.aW,SV.aC,ag.ax] at this
 exact this
theorem C8 (S:Sh)(o:ag):SB Tryz.prog shape_Shape_Why_2.f [.ptr 7 0,.ptr 8 0] (S.ht o) 9 0 fun r F=>r=bl (!S.aG o)∧F=S.ht o:=by
 refine shape_Shape_Why_2.enter (by simp [SV.ay,SV.ok]) (S.iz o (Nat.le_refl 9)) (by simp) ?_
 dsimp only [shape_Shape_Why_2.s,Co.M,Co.G,Co.J,Co.H,Co.N,Co.F,Co.C,Co.Z,Co.B,Co.b8,Co.aB,Co.bL,Co.i6,Co.z8,Co.bU]
 have hc:∀ k,aM Tryz.prog shape_Shape_cart.f [.ptr 0 0,.agg o.cells] S.h0 k 0 (bl (S.aG o)) S.h0:=S.at_ (CS S o) (fun ρ=>by simp [SV.aW,SV.aC,ag.ax]) (fun _=>rfl) n0 pT
 refine SW.seq ?_
 refine SW.g0 [0,1,2] mixed af ?_
 refine SW.seq ?_
 refine SW.g1 [0,1,2] mixed af hc ?_
 refine SW.ret ?_
 exact End.mk (S.ht o) (h4:=⟨rfl,rfl⟩) (h6:=S.iz o (Nat.le_refl 9))
theorem C9 (S:Sh)(o:ag)(k:Nat):aM Tryz.prog shape_Shape_Why_2.f [.ptr 7 0,.ptr 8 0] (S.ht o) k 0 (bl (!S.aG o)) (S.ht o):=S.IN o (C8 S o) k rfl (fun _=>rfl)
theorem C_ (g h:Bool):SB Tryz.prog shape_Shape_Why_3.f [.ptr 0 0,.ptr 1 0] [(0,.box 4 [bl g]),(1,.box 4 [bl h])] 2 0 fun r F=>r=bl (!g && !h)∧F=[(0,.box 4 [bl g]),(1,.box 4 [bl h])]:=by
 refine shape_Shape_Why_3.enter (by first | rfl | simp [SV.ok,SV.ay]) (by first | rfl | simp [Hp.ok,Ob.ok,SV.ok,SV.ay,aL.ai]) (by simp) ?_
 dsimp only [shape_Shape_Why_3.s,Co.M,Co.G,Co.J,Co.H,Co.N,Co.F,Co.C,Co.Z,Co.B,Co.b8,Co.aB,Co.bL,Co.i6,Co.z8,Co.bU]
 refine SW.seq ?_
 refine SW.g0 [0,1,2] mixed af ?_
 refine SW.seq ?_
 rcases g with _ | _
 ·refine SW.g0 [0,1,2] mixed af ?_
  refine SW.ret ?_
  exact End.mk _ (h3:=fun _ _ h=>h) (h4:=⟨by simp [eP],rfl⟩)
 ·refine SW.g0 [0,1,2] mixed af ?_
  refine SW.ret ?_
  exact End.mk _ (h3:=fun _ _ h=>h) (h4:=⟨rfl,rfl⟩)
theorem C' (g h:Bool)(k:Nat):aM Tryz.prog shape_Shape_Why_3.f [.ptr 11 0,.ptr 10 0] [(11,.box 4 [bl g]),(10,.box 4 [bl h])] k 0 (bl (!g && !h)) [(11,.box 4 [bl g]),(10,.box 4 [bl h])]:=by
 have:=SB.qA [11,10] (C_ g h) (by decide) (fun i hi=>by rcases (show i=0∨i=1 by simp at hi;omega) with rfl | rfl <;> simp [aa]) k
 exact this
theorem Da (g:Bool)(c:Cr)(o:ag):SB Tryz.prog shape_Shape_Why_4.f [.ptr 0 0,.ptr 1 0,.ptr 2 0] [(0,.box 4 [bl g]),(1,.box 158 c.cells),(2,.box 43 o.cells)] 3 0 fun r F=>r=bl (!g && ((c.hold:Int) != (o.who:Int)))∧F=[(0,.box 4 [bl g]),(1,.box 158 c.cells),(2,.box 43 o.cells)]:=by
 refine shape_Shape_Why_4.enter (by first | rfl | simp [SV.ok,SV.ay]) (by first | rfl | simp [Hp.ok,Ob.ok,SV.ok,SV.ay,aL.ai]) (by simp) ?_
 dsimp only [shape_Shape_Why_4.s,Co.M,Co.G,Co.J,Co.H,Co.N,Co.F,Co.C,Co.Z,Co.B,Co.b8,Co.aB,Co.bL,Co.i6,Co.z8,Co.bU]
 refine SW.seq ?_
 refine SW.g0 [0,1,2,3] mixed af ?_
 refine SW.seq ?_
 rcases g with _ | _
 ·refine SW.g0 [0,1,2,3] mixed af ?_
  refine SW.ret ?_
  exact End.mk _ (h3:=fun _ _ h=>h) (h4:=⟨by simp [eP],rfl⟩)
 ·refine SW.g0 [0,1,2,3] mixed af ?_
  refine SW.ret ?_
  exact End.mk _ (h3:=fun _ _ h=>h) (h4:=⟨rfl,rfl⟩)
theorem Db (g:Bool)(c:Cr)(o:ag)(k:Nat):aM Tryz.prog shape_Shape_Why_4.f [.ptr 11 0,.ptr 9 0,.ptr 8 0] [(11,.box 4 [bl g]),(9,.box 158 c.cells),(8,.box 43 o.cells)] k 0 (bl (!g && ((c.hold:Int) != (o.who:Int)))) [(11,.box 4 [bl g]),(9,.box 158 c.cells),(8,.box 43 o.cells)]:=by
 have:=SB.qA [11,9,8] (Da g c o) (by decide) (fun i hi=>by rcases (show i=0∨i=1∨i=2 by simp at hi;omega) with rfl | rfl | rfl <;> simp [aa]) k
 rw [HQ] at this
 exact this
theorem Dc (c:Cr)(o:ag)(hk:o.kind<256):SB Tryz.prog shape_Shape_Why_5.f [.ptr 0 0,.ptr 1 0] [(0,.box 158 c.cells),(1,.box 43 o.cells)] 2 0 fun r F=>r=bl (mU c o.kind)∧F=[(0,.box 158 c.cells),(1,.box 43 o.cells)]:=by
 refine shape_Shape_Why_5.enter (by first | rfl | simp [SV.ok,SV.ay]) (by first | rfl | simp [Hp.ok,Ob.ok,SV.ok,SV.ay,aL.ai]) (by simp) ?_
 dsimp only [shape_Shape_Why_5.s,Co.M,Co.G,Co.J,Co.H,Co.N,Co.F,Co.C,Co.Z,Co.B,Co.b8,Co.aB,Co.bL,Co.i6,Co.z8,Co.bU]
 have hn:=CX o.kind hk
 refine SW.seq ?_
 refine SW.g0 [0,1,2] mixed af ?_
 refine SW.seq ?_
 refine SW.g1 [0,1,2] mixed af hn ?_
 refine SW.ret ?_
 exact End.mk _ (h3:=fun _ _ h=>h) (h4:=⟨rfl,rfl⟩)
theorem Dd (c:Cr)(o:ag)(hk:o.kind<256)(k:Nat):aM Tryz.prog shape_Shape_Why_5.f [.ptr 9 0,.ptr 8 0] [(9,.box 158 c.cells),(8,.box 43 o.cells)] k 0 (bl (mU c o.kind)) [(9,.box 158 c.cells),(8,.box 43 o.cells)]:=by
 have:=SB.qA [9,8] (Dc c o hk) (by decide) (fun i hi=>by rcases (show i=0∨i=1 by simp at hi;omega) with rfl | rfl <;> simp [aa]) k
 rw [HR] at this
 exact this
theorem HS (S:Sh)(o:ag)(k:Nat):aM Tryz.prog tree_Tree_Why.f [.ptr 4 0,.agg o.cells] S.h4 k 4 (i64 (S.T.why o)) S.h4:=CD S.HM o k
theorem De (S:Sh)(o:ag):SB Tryz.prog shape_Shape_Why_6.f [.ptr 8 0,.ptr 7 0] (S.ht o) 9 0 fun r F=>r=bl (decide (o.kind=1) && decide (S.T.why o≠0))∧F=S.ht o:=by
 refine shape_Shape_Why_6.enter (by simp [SV.ay,SV.ok]) (S.iz o (Nat.le_refl 9)) (by simp) ?_
 dsimp only [shape_Shape_Why_6.s,Co.M,Co.G,Co.J,Co.H,Co.N,Co.F,Co.C,Co.Z,Co.B,Co.b8,Co.aB,Co.bL,Co.i6,Co.z8,Co.bU]
 have hw:=HS S o
 obtain ⟨w,hww⟩:∃ w,S.T.why o=w:=⟨_,rfl⟩
 rw [hww] at hw ⊢
 refine SW.seq ?_
 refine SW.g0 [0,1,2] mixed af ?_
 refine SW.seq ?_
 by_cases h:o.kind=1
 ·have q:(((o.kind:Nat):Int) == 1)=true:=by rw [h];rfl
  have hz:(((w:Nat):Int) != 0)=decide (w≠0):=by rw [Bool.eq_iff_iff];simp
  refine SW.g1 [0,1,2] mixed (And.intro (q) (hz)) hw ?_
  refine SW.ret ?_
  exact End.mk (S.ht o) (h4:=⟨by simp [eP,h],rfl⟩) (h6:=S.iz o (Nat.le_refl 9))
 ·have q:(((o.kind:Nat):Int) == 1)=false:=by simp;omega
  refine SW.g1 [0,1,2] mixed (q) hw ?_
  refine SW.ret ?_
  exact End.mk (S.ht o) (h4:=⟨by simp [eP,h],rfl⟩) (h6:=S.iz o (Nat.le_refl 9))
theorem Df (S:Sh)(o:ag)(k:Nat):aM Tryz.prog shape_Shape_Why_6.f [.ptr 8 0,.ptr 7 0] (S.ht o) k 0 (bl (decide (o.kind=1) && decide (S.T.why o≠0))) (S.ht o):=S.IN o (De S o) k rfl (fun _=>rfl)
theorem Dg (S:Sh)(o:ag)(b:Bool)(hc:∀ k,aM Tryz.prog shape_Shape_target.f [.ptr 0 0,.agg o.cells] S.h0 k 0 (bl b) S.h0):SB Tryz.prog shape_Shape_Why_7.f [.ptr 7 0,.ptr 8 0] (S.ht o) 9 0 fun r F=>r=bl (!b)∧F=S.ht o:=by
 refine shape_Shape_Why_7.enter (by simp [SV.ay,SV.ok]) (S.iz o (Nat.le_refl 9)) (by simp) ?_
 dsimp only [shape_Shape_Why_7.s,Co.M,Co.G,Co.J,Co.H,Co.N,Co.F,Co.C,Co.Z,Co.B,Co.b8,Co.aB,Co.bL,Co.i6,Co.z8,Co.bU]
 refine SW.seq ?_
 refine SW.g0 [0,1,2] mixed af ?_
 refine SW.seq ?_
 refine SW.g1 [0,1,2] mixed af hc ?_
 refine SW.ret ?_
 exact End.mk (S.ht o) (h4:=⟨rfl,rfl⟩) (h6:=S.iz o (Nat.le_refl 9))
theorem Dh (S:Sh)(o:ag)(b:Bool)(hc:∀ k,aM Tryz.prog shape_Shape_target.f [.ptr 0 0,.agg o.cells] S.h0 k 0 (bl b) S.h0)(k:Nat):aM Tryz.prog shape_Shape_Why_7.f [.ptr 7 0,.ptr 8 0] (S.ht o) k 0 (bl (!b)) (S.ht o):=S.IN o (Dg S o b hc) k rfl (fun _=>rfl)
theorem Di (S:Sh):SB Tryz.prog shape_Shape_none.f [.ptr 0 0] S.h0 7 0 fun r F=>r=bl false∧F=S.h0:=by
 refine shape_Shape_none.enter (by simp [SV.ay,SV.ok]) (S.ok (Nat.le_refl 7)) (by simp) ?_
 dsimp only [shape_Shape_none.s,Co.M,Co.G,Co.J,Co.H,Co.N,Co.F,Co.C,Co.Z,Co.B,Co.b8,Co.aB,Co.bL,Co.i6,Co.z8,Co.bU]
 (repeat (first | refine SW.seq ?_ | refine SW.block ?_ | refine SW.g0 [0,2] mixed af ?_ | refine SW.skip ?_ | refine SW.exit ?_ | refine SW.ret ?_ | refine SW.ah rfl ?_ | refine SW.aj rfl ?_))
 exact End.mk S.h0 (h4:=⟨rfl,rfl⟩) (h6:=S.ok (Nat.le_refl 7))
theorem sq (S:Sh)(k:Nat):aM Tryz.prog shape_Shape_none.f [.ptr 0 0] S.h0 k 0 (bl false) S.h0:=S.at_ (Di S) (fun _=>rfl) (fun _=>rfl) n0 pT k
end
end
section
def qO:List SV:=[.d (.int .i64 2),.fn (.func 125) [] [.ptr 8 0],.d (.int .i64 271),.fn (.func 126) [] [.ptr 7 0,.ptr 8 0],.d (.int .i64 272),.fn (.func 128) [] [.ptr 11 0,.ptr 10 0],.d (.int .i64 273),.fn (.func 129) [] [.ptr 11 0,.ptr 9 0,.ptr 8 0],.d (.int .i64 274),.fn (.func 130) [] [.ptr 9 0,.ptr 8 0],.d (.int .i64 275),.fn (.func 132) [] [.ptr 8 0,.ptr 7 0],.d (.int .i64 276),.fn (.func 134) [] [.ptr 7 0,.ptr 8 0]]
theorem Dj:List.take 2 qO=[.d (.int .i64 2),.fn (.func 125) [] [.ptr 8 0]]:=rfl
theorem Dk:List.take 2 (List.drop 2 qO)=[.d (.int .i64 271),.fn (.func 126) [] [.ptr 7 0,.ptr 8 0]]:=rfl
theorem Dl:List.take 2 (List.drop 4 qO)=[.d (.int .i64 272),.fn (.func 128) [] [.ptr 11 0,.ptr 10 0]]:=rfl
theorem Dm:List.take 2 (List.drop 6 qO)=[.d (.int .i64 273),.fn (.func 129) [] [.ptr 11 0,.ptr 9 0,.ptr 8 0]]:=rfl
theorem Dn:List.take 2 (List.drop 8 qO)=[.d (.int .i64 274),.fn (.func 130) [] [.ptr 9 0,.ptr 8 0]]:=rfl
theorem Dp:List.take 2 (List.drop 10 qO)=[.d (.int .i64 275),.fn (.func 132) [] [.ptr 8 0,.ptr 7 0]]:=rfl
theorem Dq:List.take 2 (List.drop 12 qO)=[.d (.int .i64 276),.fn (.func 134) [] [.ptr 7 0,.ptr 8 0]]:=rfl
theorem JD:∀ (x0 x1 x2 x3 x4 x5 x6 x7 x8 x9 Ks Kt Ku Kv a0 b0 a1 b1 a2 b2 a3 b3 a4 b4 a5 b5 a6 b6:SV),(cU (cU (cU (cU (cU (cU (cU ([x0,x1,x2,x3,x4,x5,x6,x7,x8,x9,Ks,Kt,Ku,Kv]) 0 [a0,b0]) 2 [a1,b1]) 4 [a2,b2]) 6 [a3,b3]) 8 [a4,b4]) 10 [a5,b5]) 12 [a6,b6])=[a0,b0,a1,b1,a2,b2,a3,b3,a4,b4,a5,b5,a6,b6]:=fun _ _ _ _ _ _ _ _ _ _ _ _ _ _ _ _ _ _ _ _ _ _ _ _ _ _ _ _=>rfl
@[simp] theorem JE:qO.length=14:=rfl
theorem j7:SV.ay (fun n=>decide (n<12)) qO=true:=rfl
def Sh.pU (S:Sh)(o:ag)(ab:Bool):Nat→Bool
 | 0=>decide ((o.kind:Int)>8)
 | 1=> !S.aG o
 | 2=> !((o.kind:Int) == 0) && !S.we o.aK o
 | 3=> !((o.kind:Int) == 0) && (((S.cr o.aK).hold:Int) != (o.who:Int))
 | 4=>mU (S.cr o.aK) o.kind
 | 5=>decide (o.kind=1) && decide (S.T.why o≠0)
 | _=> !S.tgt o ab
def Sh.why (S:Sh)(o:ag)(ab:Bool):Nat:=
 if S.pU o ab 0 then 2 else if S.pU o ab 1 then 271 else if S.pU o ab 2 then 272 else if S.pU o ab 3 then 273 else if S.pU o ab 4 then 274 else if S.pU o ab 5 then 275 else if S.pU o ab 6 then 276 else 0
abbrev Sh.hw (S:Sh)(o:ag)(c:Cr)(g h:Bool):Hp:=(11,.box 4 [bl g])::(10,.box 4 [bl h])::(9,.box 158 c.cells)::S.ht o
theorem Sh.JF (S:Sh)(o:ag)(c:Cr)(g h:Bool){k:Nat}(hk:12≤k):(S.hw o c g h).ok (fun n=>decide (n<k))=true:=by
 have:=S.iz o (k:=k) (by omega)
 simp only [Sh.hw,Hp.ok,List.all_cons,Ob.ok,Cr.ai,SV.ay,SV.ok,Bool.and_true,Bool.and_eq_true,decide_eq_true_eq] at this ⊢
 exact ⟨by omega,by omega,by omega,this⟩
section
attribute [local irreducible] SW RW aM SC ak au jr Sh.tgt Sh.aG Sh.we mU qO
set_option maxHeartbeats 8000000 in
theorem FG (S:Sh)(o:ag)(hk:o.kind<256)(ab:Bool)(hT:∀ k,aM Tryz.prog shape_Shape_target.f [.ptr 0 0,.agg o.cells] S.h0 k 0 (bl (S.tgt o ab)) S.h0):
  SB Tryz.prog shape_Shape_Why.f [.ptr 0 0,.agg o.cells] S.h0 7 0 fun r F=>r=i64 (S.why o ab)∧F=S.h0:=by
 refine shape_Shape_Why.enter (by simp [SV.ay,SV.ok]) (S.ok (Nat.le_refl 7)) (by simp) ?_
 dsimp only [shape_Shape_Why.s,Co.M,Co.G,Co.J,Co.H,Co.N,Co.F,Co.C,Co.Z,Co.B,Co.b8,Co.aB,Co.bL,Co.i6,Co.z8,Co.bU]
 have h6:=S.ok (Nat.le_refl 7)
 have hn:=sq S
 refine SW.seq ?_
 refine SW.g0 [0,1,2,3,4,5,6,7,9,11,37,38,39,43] mixed af ?_
 refine SW.seq (SW.seq ?_)
 refine SW.g1 [0,1,2,3,4,5,6,7,9,11,37,38,39,43] mixed af hn ?_
 refine SW.aj rfl (SW.skip ?_)
 have hc:=zV S o.aK o
 obtain ⟨c,hcc⟩:∃ c,S.cr o.aK=c:=⟨_,rfl⟩
 obtain ⟨h,hh⟩:∃ h,S.we o.aK o=h:=⟨_,rfl⟩
 obtain ⟨g,hg⟩:∃ g,((o.kind:Int) == 0)=g:=⟨_,rfl⟩
 have e2:S.pU o ab 2=(!g && !h):=by show (!((o.kind:Int) == 0) && !S.we o.aK o)=_;rw [hg,hh]
 have e3:S.pU o ab 3=(!g && ((c.hold:Int) != (o.who:Int))):=by show (!((o.kind:Int) == 0) && (((S.cr o.aK).hold:Int) != (o.who:Int)))=_;rw [hg,hcc]
 have e4:S.pU o ab 4=mU c o.kind:=by show mU (S.cr o.aK) o.kind=_;rw [hcc]
 rw [hcc,hh] at hc
 refine SW.seq ?_
 refine SW.g1 [0,1,2,3,4,5,6,7,9,11,37,38,39,43] mixed af hc ?_
 refine SW.seq ?_
 refine SW.g0 [0,1,2,3,4,5,6,7,9,11,37,38,39,43] mixed (hg) ?_
 refine SW.seq (SW.seq ?_)
 have eR:([.d (.int .i64 2),.fn (.func 125) [] [.ptr 8 0],.d (.int .i64 271),.fn (.func 126) [] [.ptr 7 0,.ptr 8 0],.d (.int .i64 272),.fn (.func 128) [] [.ptr 11 0,.ptr 10 0],.d (.int .i64 273),.fn (.func 129) [] [.ptr 11 0,.ptr 9 0,.ptr 8 0],.d (.int .i64 274),.fn (.func 130) [] [.ptr 9 0,.ptr 8 0],.d (.int .i64 275),.fn (.func 132) [] [.ptr 8 0,.ptr 7 0],.d (.int .i64 276),.fn (.func 134) [] [.ptr 7 0,.ptr 8 0]]:List SV)=qO:=by unfold qO;rfl
 refine SW.g0 [0,1,2,3,4,5,6,7,9,11,37,38,39,43] mixed (And.intro (xD) (And.intro (JD) (eR))) ?_
 refine SW.block ?_
 have nd:((S.hw o c g h).map (·.1)).Nodup:=by simp
 have hH:=S.JF o c g h (Nat.le_refl 12)
 have c0:∀ k,aM Tryz.prog 125 [.ptr 8 0] [(8,.box 43 o.cells)] k 0 (bl (S.pU o ab 0)) [(8,.box 43 o.cells)]:=fun k=>C7 o k
 have c1:∀ k,aM Tryz.prog 126 [.ptr 7 0,.ptr 8 0] (S.ht o) k 0 (bl (S.pU o ab 1)) (S.ht o):=fun k=>C9 S o k
 have c2:∀ k,aM Tryz.prog 128 [.ptr 11 0,.ptr 10 0] [(11,.box 4 [bl g]),(10,.box 4 [bl h])] k 0 (bl (S.pU o ab 2)) [(11,.box 4 [bl g]),(10,.box 4 [bl h])]:=fun k=>by rw [e2];exact C' g h k
 have c3:∀ k,aM Tryz.prog 129 [.ptr 11 0,.ptr 9 0,.ptr 8 0] [(11,.box 4 [bl g]),(9,.box 158 c.cells),(8,.box 43 o.cells)] k 0 (bl (S.pU o ab 3)) [(11,.box 4 [bl g]),(9,.box 158 c.cells),(8,.box 43 o.cells)]:=fun k=>by rw [e3];exact Db g c o k
 have c4:∀ k,aM Tryz.prog 130 [.ptr 9 0,.ptr 8 0] [(9,.box 158 c.cells),(8,.box 43 o.cells)] k 0 (bl (S.pU o ab 4)) [(9,.box 158 c.cells),(8,.box 43 o.cells)]:=fun k=>by rw [e4];exact Dd c o hk k
 have c5:∀ k,aM Tryz.prog 132 [.ptr 8 0,.ptr 7 0] (S.ht o) k 0 (bl (S.pU o ab 5)) (S.ht o):=fun k=>Df S o k
 have c6:∀ k,aM Tryz.prog 134 [.ptr 7 0,.ptr 8 0] (S.ht o) k 0 (bl (S.pU o ab 6)) (S.ht o):=fun k=>Dh S o _ hT k
 have hw:S.why o ab=if S.pU o ab 0 then 2 else if S.pU o ab 1 then 271 else if S.pU o ab 2 then 272 else if S.pU o ab 3 then 273 else if S.pU o ab 4 then 274 else if S.pU o ab 5 then 275 else if S.pU o ab 6 then 276 else 0:=rfl
 generalize S.pU o ab=rb at c0 c1 c2 c3 c4 c5 c6 hw
 rw [hw]
 clear hw e2 e3 e4 hc hn
 refine SW.loop (α:={i:Nat // i≤7∧∀ j,j<i→rb j=false}) (fun i=>⟨[(38,i64 i.1),(37,.agg qO)],S.hw o c g h,12⟩) (fun i=>7 - i.1) ⟨0,by omega,fun j hj=>absurd hj (by omega)⟩ id ?_ ?_
 ·exact aJ.same (by simp) (by simp [aY,List.lookup,SV.aC,SV.b_,SV.ok,j7]) hH (aH nd)
 rintro ⟨i,hi,hz⟩
 have hdrop:∀ (o2:Ob) (x:Nat×Ob),x∈S.hw o c g h→lk ((12,o2)::S.hw o c g h) x.1=some x.2:=fun o2 x hx=>by
  have hl:=aH nd x hx
  rw [aa,if_neg ?_]
  ·exact hl
  ·intro e
   have:=(Hp.dH hH hl).1
   simp at this
   omega
 match i,hi,hz with
 | 0,_,hz=>
  rcases (Bool.eq_false_or_eq_true (rb 0)).symm with h0 | h0
  ·rw [h0] at c0
   (repeat (first | refine SW.seq ?_ | refine SW.block ?_ | refine SW.g1 [0,1,2,3,4,5,6,7,9,11,37,38,39,43] mixed (And.intro (Dj) (fC)) c0 ?_ | refine SW.skip ?_ | refine SW.exit ?_ | refine SW.ret ?_ | refine SW.ah rfl ?_ | refine SW.aj rfl ?_))
   exact ⟨⟨1,by omega,fun j hj=>by
    rcases Nat.lt_succ_iff_lt_or_eq.1 hj with hj | rfl
    ·exact hz j hj
    ·exact h0⟩,id,by dsimp only;omega,aJ.same (by simp) (by simp [aY,List.lookup,SV.aC,SV.b_,SV.ok,j7]) hH (fun x hx=>hdrop _ x hx)⟩
  ·rw [h0] at c0
   (repeat (first | refine SW.seq ?_ | refine SW.block ?_ | refine SW.g1 [0,1,2,3,4,5,6,7,9,11,37,38,39,43] mixed (And.intro (Dj) (fC)) c0 ?_ | refine SW.skip ?_ | refine SW.exit ?_ | refine SW.ret ?_ | refine SW.ah rfl ?_ | refine SW.aj rfl ?_))
   exact End.mk S.h0 (h4:=⟨by  rw [if_pos h0];rfl,rfl⟩) (h6:=h6)
 | 1,_,hz=>
  have z0:rb 0=false:=hz 0 (by omega)
  rcases (Bool.eq_false_or_eq_true (rb 1)).symm with h0 | h0
  ·rw [h0] at c1
   (repeat (first | refine SW.seq ?_ | refine SW.block ?_ | refine SW.g1 [0,1,2,3,4,5,6,7,9,11,37,38,39,43] mixed (And.intro (Dk) (fC)) c1 ?_ | refine SW.skip ?_ | refine SW.exit ?_ | refine SW.ret ?_ | refine SW.ah rfl ?_ | refine SW.aj rfl ?_))
   exact ⟨⟨2,by omega,fun j hj=>by
    rcases Nat.lt_succ_iff_lt_or_eq.1 hj with hj | rfl
    ·exact hz j hj
    ·exact h0⟩,id,by dsimp only;omega,aJ.same (by simp) (by simp [aY,List.lookup,SV.aC,SV.b_,SV.ok,j7]) hH (fun x hx=>hdrop _ x hx)⟩
  ·rw [h0] at c1
   (repeat (first | refine SW.seq ?_ | refine SW.block ?_ | refine SW.g1 [0,1,2,3,4,5,6,7,9,11,37,38,39,43] mixed (And.intro (Dk) (fC)) c1 ?_ | refine SW.skip ?_ | refine SW.exit ?_ | refine SW.ret ?_ | refine SW.ah rfl ?_ | refine SW.aj rfl ?_))
   exact End.mk S.h0 (h4:=⟨by rw [if_neg (by rw [z0];simp)];rw [if_pos h0];rfl,rfl⟩) (h6:=h6)
 | 2,_,hz=>
  have z0:rb 0=false:=hz 0 (by omega)
  have z1:rb 1=false:=hz 1 (by omega)
  rcases (Bool.eq_false_or_eq_true (rb 2)).symm with h0 | h0
  ·rw [h0] at c2
   (repeat (first | refine SW.seq ?_ | refine SW.block ?_ | refine SW.g1 [0,1,2,3,4,5,6,7,9,11,37,38,39,43] mixed (And.intro (Dl) (fC)) c2 ?_ | refine SW.skip ?_ | refine SW.exit ?_ | refine SW.ret ?_ | refine SW.ah rfl ?_ | refine SW.aj rfl ?_))
   exact ⟨⟨3,by omega,fun j hj=>by
    rcases Nat.lt_succ_iff_lt_or_eq.1 hj with hj | rfl
    ·exact hz j hj
    ·exact h0⟩,id,by dsimp only;omega,aJ.same (by simp) (by simp [aY,List.lookup,SV.aC,SV.b_,SV.ok,j7]) hH (fun x hx=>hdrop _ x hx)⟩
  ·rw [h0] at c2
   (repeat (first | refine SW.seq ?_ | refine SW.block ?_ | refine SW.g1 [0,1,2,3,4,5,6,7,9,11,37,38,39,43] mixed (And.intro (Dl) (fC)) c2 ?_ | refine SW.skip ?_ | refine SW.exit ?_ | refine SW.ret ?_ | refine SW.ah rfl ?_ | refine SW.aj rfl ?_))
   exact End.mk S.h0 (h4:=⟨by rw [if_neg (by rw [z0];simp)];rw [if_neg (by rw [z1];simp)];rw [if_pos h0];rfl,rfl⟩) (h6:=h6)
 | 3,_,hz=>
  have z0:rb 0=false:=hz 0 (by omega)
  have z1:rb 1=false:=hz 1 (by omega)
  have z2:rb 2=false:=hz 2 (by omega)
  rcases (Bool.eq_false_or_eq_true (rb 3)).symm with h0 | h0
  ·rw [h0] at c3
   (repeat (first | refine SW.seq ?_ | refine SW.block ?_ | refine SW.g1 [0,1,2,3,4,5,6,7,9,11,37,38,39,43] mixed (And.intro (Dm) (fC)) c3 ?_ | refine SW.skip ?_ | refine SW.exit ?_ | refine SW.ret ?_ | refine SW.ah rfl ?_ | refine SW.aj rfl ?_))
   exact ⟨⟨4,by omega,fun j hj=>by
    rcases Nat.lt_succ_iff_lt_or_eq.1 hj with hj | rfl
    ·exact hz j hj
    ·exact h0⟩,id,by dsimp only;omega,aJ.same (by simp) (by simp [aY,List.lookup,SV.aC,SV.b_,SV.ok,j7]) hH (fun x hx=>hdrop _ x hx)⟩
  ·rw [h0] at c3
   (repeat (first | refine SW.seq ?_ | refine SW.block ?_ | refine SW.g1 [0,1,2,3,4,5,6,7,9,11,37,38,39,43] mixed (And.intro (Dm) (fC)) c3 ?_ | refine SW.skip ?_ | refine SW.exit ?_ | refine SW.ret ?_ | refine SW.ah rfl ?_ | refine SW.aj rfl ?_))
   exact End.mk S.h0 (h4:=⟨by rw [if_neg (by rw [z0];simp)];rw [if_neg (by rw [z1];simp)];rw [if_neg (by rw [z2];simp)];rw [if_pos h0];rfl,rfl⟩) (h6:=h6)
 | 4,_,hz=>
  have z0:rb 0=false:=hz 0 (by omega)
  have z1:rb 1=false:=hz 1 (by omega)
  have z2:rb 2=false:=hz 2 (by omega)
  have z3:rb 3=false:=hz 3 (by omega)
  rcases (Bool.eq_false_or_eq_true (rb 4)).symm with h0 | h0
  ·rw [h0] at c4
   (repeat (first | refine SW.seq ?_ | refine SW.block ?_ | refine SW.g1 [0,1,2,3,4,5,6,7,9,11,37,38,39,43] mixed (And.intro (Dn) (fC)) c4 ?_ | refine SW.skip ?_ | refine SW.exit ?_ | refine SW.ret ?_ | refine SW.ah rfl ?_ | refine SW.aj rfl ?_))
   exact ⟨⟨5,by omega,fun j hj=>by
    rcases Nat.lt_succ_iff_lt_or_eq.1 hj with hj | rfl
    ·exact hz j hj
    ·exact h0⟩,id,by dsimp only;omega,aJ.same (by simp) (by simp [aY,List.lookup,SV.aC,SV.b_,SV.ok,j7]) hH (fun x hx=>hdrop _ x hx)⟩
  ·rw [h0] at c4
   (repeat (first | refine SW.seq ?_ | refine SW.block ?_ | refine SW.g1 [0,1,2,3,4,5,6,7,9,11,37,38,39,43] mixed (And.intro (Dn) (fC)) c4 ?_ | refine SW.skip ?_ | refine SW.exit ?_ | refine SW.ret ?_ | refine SW.ah rfl ?_ | refine SW.aj rfl ?_))
   exact End.mk S.h0 (h4:=⟨by rw [if_neg (by rw [z0];simp)];rw [if_neg (by rw [z1];simp)];rw [if_neg (by rw [z2];simp)];rw [if_neg (by rw [z3];simp)];rw [if_pos h0];rfl,rfl⟩) (h6:=h6)
 | 5,_,hz=>
  have z0:rb 0=false:=hz 0 (by omega)
  have z1:rb 1=false:=hz 1 (by omega)
  have z2:rb 2=false:=hz 2 (by omega)
  have z3:rb 3=false:=hz 3 (by omega)
  have z4:rb 4=false:=hz 4 (by omega)
  rcases (Bool.eq_false_or_eq_true (rb 5)).symm with h0 | h0
  ·rw [h0] at c5
   (repeat (first | refine SW.seq ?_ | refine SW.block ?_ | refine SW.g1 [0,1,2,3,4,5,6,7,9,11,37,38,39,43] mixed (And.intro (Dp) (fC)) c5 ?_ | refine SW.skip ?_ | refine SW.exit ?_ | refine SW.ret ?_ | refine SW.ah rfl ?_ | refine SW.aj rfl ?_))
   exact ⟨⟨6,by omega,fun j hj=>by
    rcases Nat.lt_succ_iff_lt_or_eq.1 hj with hj | rfl
    ·exact hz j hj
    ·exact h0⟩,id,by dsimp only;omega,aJ.same (by simp) (by simp [aY,List.lookup,SV.aC,SV.b_,SV.ok,j7]) hH (fun x hx=>hdrop _ x hx)⟩
  ·rw [h0] at c5
   (repeat (first | refine SW.seq ?_ | refine SW.block ?_ | refine SW.g1 [0,1,2,3,4,5,6,7,9,11,37,38,39,43] mixed (And.intro (Dp) (fC)) c5 ?_ | refine SW.skip ?_ | refine SW.exit ?_ | refine SW.ret ?_ | refine SW.ah rfl ?_ | refine SW.aj rfl ?_))
   exact End.mk S.h0 (h4:=⟨by rw [if_neg (by rw [z0];simp)];rw [if_neg (by rw [z1];simp)];rw [if_neg (by rw [z2];simp)];rw [if_neg (by rw [z3];simp)];rw [if_neg (by rw [z4];simp)];rw [if_pos h0];rfl,rfl⟩) (h6:=h6)
 | 6,_,hz=>
  have z0:rb 0=false:=hz 0 (by omega)
  have z1:rb 1=false:=hz 1 (by omega)
  have z2:rb 2=false:=hz 2 (by omega)
  have z3:rb 3=false:=hz 3 (by omega)
  have z4:rb 4=false:=hz 4 (by omega)
  have z5:rb 5=false:=hz 5 (by omega)
  rcases (Bool.eq_false_or_eq_true (rb 6)).symm with h0 | h0
  ·rw [h0] at c6
   (repeat (first | refine SW.seq ?_ | refine SW.block ?_ | refine SW.g1 [0,1,2,3,4,5,6,7,9,11,37,38,39,43] mixed (And.intro (Dq) (fC)) c6 ?_ | refine SW.skip ?_ | refine SW.exit ?_ | refine SW.ret ?_ | refine SW.ah rfl ?_ | refine SW.aj rfl ?_))
   exact ⟨⟨7,by omega,fun j hj=>by
    rcases Nat.lt_succ_iff_lt_or_eq.1 hj with hj | rfl
    ·exact hz j hj
    ·exact h0⟩,id,by dsimp only;omega,aJ.same (by simp) (by simp [aY,List.lookup,SV.aC,SV.b_,SV.ok,j7]) hH (fun x hx=>hdrop _ x hx)⟩
  ·rw [h0] at c6
   (repeat (first | refine SW.seq ?_ | refine SW.block ?_ | refine SW.g1 [0,1,2,3,4,5,6,7,9,11,37,38,39,43] mixed (And.intro (Dq) (fC)) c6 ?_ | refine SW.skip ?_ | refine SW.exit ?_ | refine SW.ret ?_ | refine SW.ah rfl ?_ | refine SW.aj rfl ?_))
   exact End.mk S.h0 (h4:=⟨by rw [if_neg (by rw [z0];simp)];rw [if_neg (by rw [z1];simp)];rw [if_neg (by rw [z2];simp)];rw [if_neg (by rw [z3];simp)];rw [if_neg (by rw [z4];simp)];rw [if_neg (by rw [z5];simp)];rw [if_pos h0];rfl,rfl⟩) (h6:=h6)
 | 7,_,hz=>
  have z0:rb 0=false:=hz 0 (by omega)
  have z1:rb 1=false:=hz 1 (by omega)
  have z2:rb 2=false:=hz 2 (by omega)
  have z3:rb 3=false:=hz 3 (by omega)
  have z4:rb 4=false:=hz 4 (by omega)
  have z5:rb 5=false:=hz 5 (by omega)
  have z6:rb 6=false:=hz 6 (by omega)
  (repeat (first | refine SW.seq ?_ | refine SW.block ?_ | refine SW.g0 [0,1,2,3,4,5,6,7,9,11,37,38,39,43] mixed af ?_ | refine SW.skip ?_ | refine SW.exit ?_ | refine SW.ret ?_ | refine SW.ah rfl ?_ | refine SW.aj rfl ?_))
  exact End.mk S.h0 (h4:=⟨by rw [if_neg (by rw [z0];simp)];rw [if_neg (by rw [z1];simp)];rw [if_neg (by rw [z2];simp)];rw [if_neg (by rw [z3];simp)];rw [if_neg (by rw [z4];simp)];rw [if_neg (by rw [z5];simp)];rw [if_neg (by rw [z6];simp)];rfl,rfl⟩) (h6:=h6)
theorem FH (S:Sh)(o:ag)(hk:o.kind<256)(ab:Bool)(hT:∀ k,aM Tryz.prog shape_Shape_target.f [.ptr 0 0,.agg o.cells] S.h0 k 0 (bl (S.tgt o ab)) S.h0)(n:Sn)(hn:n.ok)(k:Nat):
  aM Tryz.prog shape_Shape_Why.f [.ptr n.b 0,.agg o.cells] (S.hp n) k 0 (i64 (S.why o ab)) (S.hp n):=
 S.at_ (FG S o hk ab hT) (fun ρ=>by simp [SV.aW,SV.aC,ag.ax]) (fun _=>rfl) n hn k
end
end
end Go.Proofs.YtaelhkkjgfobhaaGreat
