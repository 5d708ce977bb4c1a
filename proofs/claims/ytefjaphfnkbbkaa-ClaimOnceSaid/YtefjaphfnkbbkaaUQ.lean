/-
 Submits: Submit.
-/
import Derived.Test.YtefjaphfnkbbkaaUC
import Derived.Test.YtefjaphfnkbbkaaUP
set_option linter.unusedSectionVars false
set_option linter.unusedVariables false
set_option linter.unusedSimpArgs false
namespace Go.Proofs.Ytefjaphfnkbbkaa
open Go.Sl Go.Proofs Go.RowKit
section
attribute [local irreducible] SW RW bp SC af aa
abbrev dP:List SV:=[.d (.int .u8 0),.d (.int .u32 0),.d (.int .u8 0),.d (.int .u32 0),.d (.int .u32 0),.d .ay,.d (.int .u64 0)]
def fD (a:MM Dt Cr)(l:List av)(s:List Sp)(o:aq)(D:List Dt):SV:=
 if MM.has a o.aQ=true∧o.kind=8 then
  if (bB (ej l) o.who (l,[]) o.cl).2=[] then .cg [.agg dP,.agg [dD l,cF s],.d (.int .u8 4)]
  else if cE (bM a s) (gj (cI l (bB (ej l) o.who (l,[]) o.cl).2)) D=0 then .cg [.agg (aG o.dot o.aQ o.who (fC (cI l (bB (ej l) o.who (l,[]) o.cl).2)) (gj (cI l (bB (ej l) o.who (l,[]) o.cl).2))),.agg [dD (bB (ej l) o.who (l,[]) o.cl).1,cS (bM a s) (gj (cI l (bB (ej l) o.who (l,[]) o.cl).2)) s D],.d (.int .u8 1)]
  else .cg [.agg dP,.agg [dD l,cF s],.d (.int .u8 3)]
 else .cg [.agg dP,.agg [dD l,cF s],.d (.int .u8 0)]
theorem aG.Jb (dot aQ:Dt)(who:Nat):bE (dot.cells++(aQ.cells++[.d (.int .u32 0),.d .ay,.d (.int .u64 0)])) 4 [.d (.int .u32 (who:Int))]=aG dot aQ who (.d .ay) 0:=rfl
theorem aG.xP (dot aQ:Dt)(who:Nat)(x:SV)(t:Nat):bE [.d (.int .u8 0),.d (.int .u32 0),.d (.int .u8 0),.d (.int .u32 0),.d (.int .u32 0),.d .ay,.d (.int .u64 0)] 0 (aG dot aQ who x t)=aG dot aQ who x t:=rfl
theorem aG.one (dot aQ:Dt)(who:Nat)(x:DV)(t:Nat):(aG dot aQ who (.d x) t).all SV.cL=true:=rfl
theorem G7 (ρ:Nat→Nat)(l:List av):(aH Dt.cells iv (mB l).1).map (fun e=>(e.1,e.2.1.aV ρ,e.2.2.aV ρ))=aH Dt.cells iv (mB l).1:=jv ρ _ (fun a=>Dt.aD a ρ) (fun v=>rfl)
theorem Dx (d c:Dt)(who tot n m:Nat)(ds:List DV):SV.gV n m ds (aG d c who (.gs n m) tot)=aG d c who (.d (.sl m ds)) tot:=by
 simp [aG,SV.gV,SV.gu]
theorem vS {f:Dt→Nat}{n:Nat}{D:List Dt}(h:cE f n D=0):D≠[]∧n≤rV f D:=by
 cases D with
 | nil=>cases h
 | cons d r=>
  refine ⟨by simp,?_⟩
  by_cases hn:n≤rV f (d::r)
  ·exact hn
  ·rw [E9 (by simp) (by omega)] at h;cases h
section
variable {l0:List aq} {a:MM Dt Cr} {ca:Nat} {m:MM Dt aq} {cm:Nat} (h:Tn l0 a ca m cm)
include h
set_option maxRecDepth 100000 in
set_option maxHeartbeats 16000000 in
theorem Tn.uU (l:List av)(hl:l.length≤1000)(hb:∀ x,x∈l→lW x)(s:List Sp)(hs:s.length<1000)(jJ:∀ x,x∈s→x.n<18446744073709551616)(o:aq)(ho:o.qW)(j_:o.cl.length≤1000)(L:List Cr)(hL:lZ a (MM.get a o.aQ) L)(xX:L.length<10000):
  SB Try.prog claim_Submit.f [.ptr 2 0,.agg [dD l,cF s],.agg o.cells] (H2 a ca m cm) 3 0 (fun r F'=>r=fD a l s o (L.map (·.dot))∧F'=H2 a ca m cm):=by
 have oc:∀ q:Nat→Bool,SV.aI q o.cells=true:=aq.aj o
 have z2:bE [SV.d DV.ay,SV.d DV.ay] 0 [SV.gs 7 l.length,SV.gs 9 s.length]=[SV.gs 7 l.length,SV.gs 9 s.length]:=rfl
 have z3:bE (bE [SV.d DV.ay,SV.d DV.ay] 0 [SV.gs 7 l.length]) 1 [SV.gs 9 s.length]=[SV.gs 7 l.length,SV.gs 9 s.length]:=rfl
 have z1:bE [SV.d DV.ay] 0 [SV.gs 8 l.length]=[SV.gs 8 l.length]:=rfl
 refine claim_Submit.enter (by simp [SV.ok,SV.aI,oc]) (uM a ca m cm (Nat.le_refl 3)) (by simp) ?_
 dsimp only [claim_Submit.s,Co.M,Co.G,Co.J,Co.H,Co.N,Co.F,Co.C,Co.Z,Co.B,Co.b8,Co.aA,Co.bz,Co.i6,Co.z8,Co.dm]
 have c1:=fun k=>uH l (by omega) hb k
 refine SW.seq ?_
 (refine SW.ai [0,1,2,4,5,6,7,8,9,11,12,13,15,16,17,39,54,56,79,94] mixed ?_;(repeat (first | refine RW.ro U (h:= ?_) | refine RW.skip (h:= ?_) | refine RW.op U (h:= ?_) | refine RW.aF U (h:= ?_) | refine RW.ah (h:= ?_)));refine RW.nil ⟨by kernel_rfl,aa.mk (h:= ?_)⟩)
 refine SW.seq ?_
 (refine SW.ai [0,1,2,4,5,6,7,8,9,11,12,13,15,16,17,39,54,56,79,94] mixed ?_;(repeat (first | refine RW.ro (And.intro (z2) (z3)) (h:= ?_) | refine RW.skip (h:= ?_) | refine RW.op (And.intro (z2) (z3)) (h:= ?_) | refine RW.aF (And.intro (z2) (z3)) (h:= ?_) | refine RW.ah (h:= ?_) | (refine RW.ax (h:= ?_);(first | refine af.mk (And.intro (z2) (z3)) (hc:=c1 _) (h:= ?_)))));refine RW.nil ⟨by kernel_rfl,aa.mk (h:= ?_)⟩)
 have eD:∀ (n len:Nat) (ds xs:List DV),SV.gV n len ds (List.map SV.d xs)=List.map SV.d xs:=fun n len ds xs=>SV.gZ (q:=fun _=>false) rfl _ (SV.bt _)
 have eC:∀ (n len:Nat) (ds:List DV),SV.gV n len ds o.cells=o.cells:=fun n len ds=>SV.gZ (q:=fun _=>false) rfl _ (aq.aj _ _)
 have ec:∀ (n len:Nat) (ds:List DV),(aH Dt.cells cv a).map (fun e=>(e.1,e.2.1,e.2.2.gu n len ds))=aH Dt.cells cv a:=fun n len ds=>Cg (q:=fun _=>false) rfl (oS _ _)
 have eo:∀ (n len:Nat) (ds:List DV),(aH Dt.cells ov m).map (fun e=>(e.1,e.2.1,e.2.2.gu n len ds))=aH Dt.cells ov m:=fun n len ds=>Cg (q:=fun _=>false) rfl (oR _ _)
 refine SW.jf 9 (s.flatMap Sp.ds) rfl rfl ?_
 simp only [kU,SV.gu,List.map_cons,List.map_nil,if_true,if_false,reduceIte,dx,Nat.reduceEqDiff,sJ,H2,Ob.gu,SV.gV,eD,eC,ec,eo]
 refine SW.jf 7 (l.flatMap av.ds) rfl rfl ?_
 simp only [kU,SV.gu,List.map_cons,List.map_nil,if_true,if_false,reduceIte,dx,Nat.reduceEqDiff,sJ,Ob.gu,SV.gV,eD,eC,ec,eo]
 have mf:=pq a m
 have u1:∀ n:Nat,n<3→n=7→10=n:=by omega
 refine SW.weak (fun n=>if n=7 then 10 else n) (st1:=⟨[(8,.d (.int .u8 0)),(9,.ptr 7 0),(7,.ptr 6 0),(6,.ptr 5 0),(5,.ptr 4 0),(4,.ptr 3 0),(0,.ptr 2 0)],(7,.box 26 [dD l,cF s])::(6,.box 26 [.d .ay,.d .ay])::(5,.box 45 dP)::(4,.box 35 o.cells)::(3,.box 26 [dD l,cF s])::H2 a ca m cm,8⟩) (bg.mk (And.intro (eq_true u1) <| And.intro (aq.aj o) (And.intro (aq.aD o) mf))) ?_
 have hget:=h.I_ o.aQ
 have s7:bE dP 0 dP=dP:=rfl
 have s2:bE [SV.d DV.ay,SV.d DV.ay] 0 [dD l,cF s]=[dD l,cF s]:=rfl
 have fin:∀ (r:SV) (env:List (Nat×SV)) (hp:Hp) (k:Nat),True→True:=fun _ _ _ _ _=>trivial
 refine SW.seq (SW.seq ?_)
 rcases hh:MM.has a o.aQ with _ | _
 ·have e0:fD a l s o (L.map (·.dot))= .cg [.agg dP,.agg [dD l,cF s],.d (.int .u8 0)]:=by unfold fD;rw [if_neg (by rw [hh];simp)]
  rw [e0]
  rw [hh] at hget
  replace hget:∀ k,bp Try.prog tree_Tree_Get.f [.ptr 2 0,.agg o.aQ.cells] (H2 a ca m cm) k 3 (.cg [.agg ((MM.get a o.aQ).getD Cr.zero).cells,i64 7]) (H2 a ca m cm):=hget
  (refine SW.ai [0,1,2,4,5,6,7,8,9,11,12,13,15,16,17,39,54,56,79,94] mixed ?_;(repeat (first | refine RW.ro U (h:= ?_) | refine RW.skip (h:= ?_) | refine RW.op U (h:= ?_) | refine RW.aF U (h:= ?_) | refine RW.ah (h:= ?_) | (refine RW.ax (h:= ?_);(first | refine af.mk U (hc:=hget _) (h:= ?_)))));refine RW.nil ⟨by kernel_rfl,aa.mk (h:= ?_)⟩)
  refine SW.seq ?_
  (refine SW.ai [0,1,2,4,5,6,7,8,9,11,12,13,15,16,17,39,54,56,79,94] mixed ?_;(repeat (first | refine RW.ro U (h:= ?_) | refine RW.skip (h:= ?_) | refine RW.op U (h:= ?_) | refine RW.aF U (h:= ?_) | refine RW.ah (h:= ?_)));refine RW.nil ⟨by kernel_rfl,aa.mk (h:= ?_)⟩)
  refine SW.au rfl (SW.seq ?_)
  (refine SW.ai [0,1,2,4,5,6,7,8,9,11,12,13,15,16,17,39,54,56,79,94] mixed ?_;(repeat (first | refine RW.ro (And.intro (s7) (s2)) (h:= ?_) | refine RW.skip (h:= ?_) | refine RW.op (And.intro (s7) (s2)) (h:= ?_) | refine RW.aF (And.intro (s7) (s2)) (h:= ?_) | refine RW.ah (h:= ?_)));refine RW.nil ⟨by kernel_rfl,aa.mk (h:= ?_)⟩)
  refine SW.ret ?_
  exact End.mk (H2 a ca m cm) (h3:=HSub.cons rfl (HSub.cons rfl (HSub.cons rfl (HSub.nil _)))) (h4:=⟨rfl,rfl⟩) (h6:=uM a ca m cm (by omega))
 rw [hh] at hget
 replace hget:∀ k,bp Try.prog tree_Tree_Get.f [.ptr 2 0,.agg o.aQ.cells] (H2 a ca m cm) k 3 (.cg [.agg ((MM.get a o.aQ).getD Cr.zero).cells,i64 0]) (H2 a ca m cm):=hget
 (refine SW.ai [0,1,2,4,5,6,7,8,9,11,12,13,15,16,17,39,54,56,79,94] mixed ?_;(repeat (first | refine RW.ro U (h:= ?_) | refine RW.skip (h:= ?_) | refine RW.op U (h:= ?_) | refine RW.aF U (h:= ?_) | refine RW.ah (h:= ?_) | (refine RW.ax (h:= ?_);(first | refine af.mk U (hc:=hget _) (h:= ?_)))));refine RW.nil ⟨by kernel_rfl,aa.mk (h:= ?_)⟩)
 refine SW.seq ?_
 by_cases hk8:o.kind=8
 rotate_left
 ·have e0:fD a l s o (L.map (·.dot))= .cg [.agg dP,.agg [dD l,cF s],.d (.int .u8 0)]:=by unfold fD;rw [if_neg (fun x=>hk8 x.2)]
  rw [e0]
  have q8:((o.kind:Int) != 8)=true:=by rw [bne_iff_ne];omega
  (refine SW.ai [0,1,2,4,5,6,7,8,9,11,12,13,15,16,17,39,54,56,79,94] mixed ?_;(repeat (first | refine RW.ro (q8) (h:= ?_) | refine RW.skip (h:= ?_) | refine RW.op (q8) (h:= ?_) | refine RW.aF (q8) (h:= ?_) | refine RW.ah (h:= ?_)));refine RW.nil ⟨by kernel_rfl,aa.mk (h:= ?_)⟩)
  refine SW.au rfl (SW.seq ?_)
  (refine SW.ai [0,1,2,4,5,6,7,8,9,11,12,13,15,16,17,39,54,56,79,94] mixed ?_;(repeat (first | refine RW.ro (And.intro (s7) (s2)) (h:= ?_) | refine RW.skip (h:= ?_) | refine RW.op (And.intro (s7) (s2)) (h:= ?_) | refine RW.aF (And.intro (s7) (s2)) (h:= ?_) | refine RW.ah (h:= ?_)));refine RW.nil ⟨by kernel_rfl,aa.mk (h:= ?_)⟩)
  refine SW.ret ?_
  exact End.mk (H2 a ca m cm) (h3:=HSub.cons rfl (HSub.cons rfl (HSub.cons rfl (HSub.nil _)))) (h4:=⟨rfl,rfl⟩) (h6:=uM a ca m cm (by omega))
 have q8:((o.kind:Int) != 8)=false:=by rw [bne_eq_false_iff_eq];omega
 have esub:fD a l s o (L.map (·.dot))=if (bB (ej l) o.who (l,[]) o.cl).2=[] then .cg [.agg dP,.agg [dD l,cF s],.d (.int .u8 4)]
  else if cE (bM a s) (gj (cI l (bB (ej l) o.who (l,[]) o.cl).2)) (L.map (·.dot))=0 then .cg [.agg (aG o.dot o.aQ o.who (fC (cI l (bB (ej l) o.who (l,[]) o.cl).2)) (gj (cI l (bB (ej l) o.who (l,[]) o.cl).2))),.agg [dD (bB (ej l) o.who (l,[]) o.cl).1,cS (bM a s) (gj (cI l (bB (ej l) o.who (l,[]) o.cl).2)) s (L.map (·.dot))],.d (.int .u8 1)]
  else .cg [.agg dP,.agg [dD l,cF s],.d (.int .u8 3)]:=by unfold fD;rw [if_pos ⟨hh,hk8⟩]
 rw [esub]
 (refine SW.ai [0,1,2,4,5,6,7,8,9,11,12,13,15,16,17,39,54,56,79,94] mixed ?_;(repeat (first | refine RW.ro (q8) (h:= ?_) | refine RW.skip (h:= ?_) | refine RW.op (q8) (h:= ?_) | refine RW.aF (q8) (h:= ?_) | refine RW.ah (h:= ?_)));refine RW.nil ⟨by kernel_rfl,aa.mk (h:= ?_)⟩)
 refine SW.ak rfl (SW.skip ?_)
 refine SW.weak id (st1:=⟨[(9,.ptr 7 0),(7,.ptr 6 0),(6,.ptr 5 0),(5,.ptr 4 0),(4,.ptr 3 0),(0,.ptr 2 0)],(7,.box 26 [dD l,cF s])::(6,.box 26 [.d .ay,.d .ay])::(5,.box 45 dP)::(4,.box 35 o.cells)::(3,.box 26 [dD l,cF s])::H2 a ca m cm,8⟩) (bg.mk (And.intro (aq.aj o) (And.intro (aq.aD o) mf))) ?_
 refine SW.seq ?_
 (refine SW.ai [0,1,2,4,5,6,7,8,9,11,12,13,15,16,17,39,54,56,79,94] mixed ?_;(repeat (first | refine RW.ro (z1) (h:= ?_) | refine RW.skip (h:= ?_) | refine RW.op (z1) (h:= ?_) | refine RW.aF (z1) (h:= ?_) | refine RW.ah (h:= ?_) | (refine RW.ax (h:= ?_);(first | refine af.mk (z1) (hc:=c1 _) (h:= ?_)))));refine RW.nil ⟨by kernel_rfl,aa.mk (h:= ?_)⟩)
 refine SW.seq ?_
 (have fx:=(And.intro (o.dO) (And.intro (o.gP) (And.intro (aG.Jb) (And.intro (aG.xP) (And.intro (aG.len) (aG.one))))));refine SW.ai [0,1,2,4,5,6,7,8,9,11,12,13,15,16,17,39,54,56,79,94] mixed ?_;(repeat (first | refine RW.ro fx (h:= ?_) | refine RW.skip (h:= ?_) | refine RW.op fx (h:= ?_) | refine RW.aF fx (h:= ?_) | refine RW.ah (h:= ?_)));refine RW.nil ⟨by kernel_rfl,aa.mk (h:= ?_)⟩)
 refine SW.seq ?_
 refine SW.seq ?_
 have hcl1:bp Try.prog claim_claims.f [.gs 8 l.length,.agg o.cells] [(8,.arr 58 10 l.length (xV l))] 11 4 (.fn (.func claim_claims_1.f) [] [.ptr 12 0,.ptr 14 0,.ptr 11 0]) [(14,.box 72 [.mp 13]),(13,.map (aH Dt.cells iv (mB l).1) (mB l).2),(12,.box 35 o.cells),(11,.box 23 [.gs 8 l.length]),(8,.arr 58 10 l.length (xV l))]:=by
  have:=SB.ej [8] (AP l (by omega) o) (by simp) (by simp [lk]) 11
  simpa [SV.aV,SV.bh,Hp.aV,Ob.aV,iq,SV.fI,aq.aD,IF,G7] using this
 (refine SW.ai [0,1,2,4,5,6,7,8,9,11,12,13,15,16,17,39,54,56,79,94] mixed ?_;(repeat (first | refine RW.ro U (h:= ?_) | refine RW.skip (h:= ?_) | refine RW.op U (h:= ?_) | refine RW.aF U (h:= ?_) | refine RW.ah (h:= ?_) | (refine RW.ax (h:= ?_);(first | refine af.mk U (hc:=hcl1) (h:= ?_)))));refine RW.nil ⟨by kernel_rfl,aa.mk (h:= ?_)⟩)
 refine SW.block ?_
 refine SW.qX 10 45 5 60 8 rfl rfl ?_
 refine SW.tL (nk:=3*o.cl.length) [12,13] [.ptr 9 0,.ptr 10 0] rfl ⟨rfl,rfl,trivial⟩ fun cA cB hca hcb=> ?_
 have hsb:=yS l hl hb o ho j_ (d:=o.dot) (c:=o.aQ) (who:=o.who) hca hcb
 have hF0:(mD l o++iH o.dot o.aQ o.who l.length cA cB (eW l (l,[]) 15):Hp).ok (fun n=>decide (8≤n) && decide (n<17))=true:=by
  simp [mD,iH,eW,Hp.ok,Ob.ok,SV.aI,SV.ok,SV.bt,aG,CA,oc]
 have hsubF:HSub (mD l o++iH o.dot o.aQ o.who l.length cA cB (eW l (l,[]) 15)) ((16,.ox 101 [12,13] [.ptr 9 0,.ptr 10 0] [55,56] cA cB .ready none)::(10,.box 45 (aG o.dot o.aQ o.who (.gs 15 0) 0))::(15,.arr 60 8 0 [])::(14,.box 72 [.mp 13])::(13,.map (aH Dt.cells iv (mB l).1) (mB l).2)::(12,.box 35 o.cells)::(11,.box 23 [.gs 8 l.length])::(10,.box 45 (aG o.dot o.aQ o.who (.d .ay) 0))::(9,.box 23 [.gs 8 l.length])::(8,.arr 58 10 l.length (xV l))::(7,.box 26 [dD l,cF s])::(6,.box 26 [.d .ay,.d .ay])::(5,.box 45 dP)::(4,.box 35 o.cells)::(3,.box 26 [dD l,cF s])::H2 a ca m cm):=by
  unfold iH eW
  simp only [mD,List.cons_append,List.nil_append]
  exact HSub.cons rfl (HSub.cons rfl (HSub.cons rfl (HSub.cons rfl (HSub.cons rfl (HSub.cons rfl (HSub.cons rfl (HSub.cons rfl (HSub.cons rfl (HSub.nil _)))))))))
 have hsc:=(hsb.here (fun n=>decide (8≤n) && decide (n<17)) (fun n hn=> ?_) (by simp [SV.aI,SV.ok]) hF0 ?_).frame hsubF
 ·refine hsc.mono ?_
  rintro r F' ⟨F1,⟨rfl,rn,hrn,rfl⟩,rfl⟩
  obtain ⟨R,hR⟩:∃ R,bB (ej l) o.who (l,[]) o.cl=R:=⟨_,rfl⟩
  rw [hR]
  have hCl:me l R:=by rw [← hR];exact me.run _ _ _ (me.zero l)
  obtain ⟨out,hout⟩:∃ out,cI l R.2=out:=⟨_,rfl⟩
  have ecs:eW l R rn=⟨R.1,out,rn,gj out⟩:=by unfold eW;rw [hout]
  rw [ecs,hout]
  have hlenO:out.length=R.2.length:=by rw [← hout];exact mC hCl.lt
  obtain ⟨T,hT⟩:∃ T,gj out=T:=⟨_,rfl⟩
  rw [hT]
  obtain ⟨r8,r9,EI,FD,FE,FF,FG,EJ,rlt,rk,rge⟩:=hrn
  have g8:=bX r8
  have g9:=bX r9
  have g10:=bX EI
  have g11:=bX FD
  have g12:=bX FE
  have g13:=bX FF
  have g14:=bX FG
  have g16:=bX EJ
  have hlk:=jc (ro:=false) (F':=mD l o++iH o.dot o.aQ o.who l.length cA cB ⟨R.1,out,rn,T⟩) hsubF (fun h=>by cases h)
  generalize cH false _ _ _=GG at hlk
  have hG:∀ n ob,lk (mD l o++iH o.dot o.aQ o.who l.length cA cB ⟨R.1,out,rn,T⟩) n=some ob→lk GG n=some ob:=fun n ob h=>by
   rw [hlk,fk (.inr (by rw [h];simp)),h]
  have hlow:∀ n,n<8→lk (mD l o++iH o.dot o.aQ o.who l.length cA cB (eW l (l,[]) 15)) n=none∧lk (mD l o++iH o.dot o.aQ o.who l.length cA cB ⟨R.1,out,rn,T⟩) n=none:=fun n hn=>by
   have m1:n≠8:=by omega
   have m2:n≠9:=by omega
   have m3:n≠10:=by omega
   have m4:n≠11:=by omega
   have m5:n≠12:=by omega
   have m6:n≠13:=by omega
   have m7:n≠14:=by omega
   have m8:n≠16:=by omega
   have m9:n≠15:=by omega
   have m10:n≠rn:=by omega
   constructor <;> simp [mD,iH,eW,ag,bA,m1,m2,m3,m4,m5,m6,m7,m8,m9,m10]
  have hL0:∀ n ob,n<8→lk ((7,.box 26 [dD l,cF s])::(6,.box 26 [.d .ay,.d .ay])::(5,.box 45 dP)::(4,.box 35 o.cells)::(3,.box 26 [dD l,cF s])::H2 a ca m cm) n=some ob→lk GG n=some ob:=fun n ob hn h=>by
   rw [hlk,c9 (hlow n hn).1 (hlow n hn).2]
   match n,hn,h with
   | 0,_,h | 1,_,h | 2,_,h | 3,_,h | 4,_,h | 5,_,h | 6,_,h | 7,_,h=>exact h
  refine ⟨none,hG 16 _ (by simp [mD,iH,ag,mq]),?_⟩
  refine SW.weak (fun n=>if n=11 then rn else n) (st1:=⟨[(12,.ptr 9 0),(13,.ptr 10 0),(9,.ptr 7 0),(7,.ptr 6 0),(6,.ptr 5 0),(5,.ptr 4 0),(4,.ptr 3 0),(0,.ptr 2 0)],(11,.arr 60 8 out.length (yB out))::(10,.box 45 (aG o.dot o.aQ o.who (.gs 11 out.length) T))::(9,.box 23 [.gs 8 l.length])::(8,.arr 58 10 l.length (xV R.1))::(7,.box 26 [dD l,cF s])::(6,.box 26 [.d .ay,.d .ay])::(5,.box 45 dP)::(4,.box 35 o.cells)::(3,.box 26 [dD l,cF s])::H2 a ca m cm,12⟩) ?_ ?_
  ·have q11:=hG rn (.arr 60 8 out.length (yB out)) (by simp [mD,iH,ag,g8,g9,g10,g11,g12,g13,g14,g16])
   have q10:=hG 10 (.box 45 (aG o.dot o.aQ o.who (.gs rn out.length) T)) (by simp [mD,iH,ag])
   have q9:=hG 9 (.box 23 [.gs 8 l.length]) (by simp [mD,iH,ag])
   have q8:=hG 8 (.arr 58 10 l.length (xV R.1)) (by simp [mD,iH,ag])
   have q7:=hL0 7 _ (by decide) rfl
   have q6:=hL0 6 _ (by decide) rfl
   have q5:=hL0 5 _ (by decide) rfl
   have q4:=hL0 4 _ (by decide) rfl
   have q3:=hL0 3 _ (by decide) rfl
   have q2:=hL0 2 _ (by decide) rfl
   have q1:=hL0 1 _ (by decide) rfl
   have q0:=hL0 0 _ (by decide) rfl
   have eR:∀ (ρ:Nat→Nat) (x:SV) (t:Nat),SV.bh ρ (aG o.dot o.aQ o.who x t)=aG o.dot o.aQ o.who (x.aV ρ) t:=fun ρ x t=>rfl
   have eO:∀ (q:Nat→Bool) (n k t:Nat),SV.aI q (aG o.dot o.aQ o.who (.gs n k) t)=q n:=fun q n k t=>by simp [aG,SV.aI,SV.ok]
   obtain ⟨mf1,mf2,mf3,mf4⟩:=mf
   refine ⟨by show 3≤12;omega,fun n hn=>if_neg (by omega),?_,?_,?_⟩
   ·simp [dL,List.lookup,SV.aV,SV.ok]
   ·simp [u_,eM,Ob.aV,SV.bh,SV.aV,SV.fI,SV.bt,Ob.ok,SV.aI,SV.ok,q0,q1,q2,q3,q4,q5,q6,q7,q8,q9,q10,q11,g16,eR,eO,aq.aD,aq.aj,mf1,mf2,mf3,mf4]
   ·intro x hx y hy e
    simp only [H2,List.map_cons,List.map_nil,List.mem_cons,List.not_mem_nil,or_false] at hx hy
    dsimp only at e
    split at e <;> split at e <;> omega
  have eO:∀ (n len:Nat) (ds:List DV) (x:DV),SV.gV n len ds (aG o.dot o.aQ o.who (.d x) T)=aG o.dot o.aQ o.who (.d x) T:=fun n len ds x=>rfl
  have eL:SV.d (.sl l.length (List.flatMap av.ds R.1))=dD R.1:=by rw [← hCl.len]
  refine SW.jf 11 (out.flatMap av.sy) rfl rfl ?_
  simp only [kU,SV.gu,List.map_cons,List.map_nil,if_true,if_false,reduceIte,dx,Nat.reduceEqDiff,sJ,H2,Ob.gu,SV.gV,eD,eC,ec,eo,Dx]
  refine SW.jf 8 (R.1.flatMap av.ds) rfl rfl ?_
  simp only [kU,SV.gu,List.map_cons,List.map_nil,if_true,if_false,reduceIte,dx,Nat.reduceEqDiff,sJ,Ob.gu,SV.gV,eD,eC,ec,eo,eO,eL]
  refine SW.seq (SW.seq ?_)
  have hemp:R.2=[]↔out=[]:=by
   constructor
   ·intro e
    rw [e] at hlenO
    exact List.eq_nil_of_length_eq_zero hlenO
   ·intro e
    rw [e] at hlenO
    exact List.eq_nil_of_length_eq_zero hlenO.symm
  by_cases hoe:out=[]
  ·rw [if_pos (hemp.2 hoe)]
   have qe:((out.length:Int) == 0)=true:=by rw [hoe];rfl
   (refine SW.ai [0,1,2,4,5,6,7,8,9,11,12,13,15,16,17,39,54,56,79,94] mixed ?_;(repeat (first | refine RW.ro (qe) (h:= ?_) | refine RW.skip (h:= ?_) | refine RW.op (qe) (h:= ?_) | refine RW.aF (qe) (h:= ?_) | refine RW.ah (h:= ?_)));refine RW.nil ⟨by kernel_rfl,aa.mk (h:= ?_)⟩)
   refine SW.au rfl (SW.seq ?_)
   (refine SW.ai [0,1,2,4,5,6,7,8,9,11,12,13,15,16,17,39,54,56,79,94] mixed ?_;(repeat (first | refine RW.ro (And.intro (s7) (s2)) (h:= ?_) | refine RW.skip (h:= ?_) | refine RW.op (And.intro (s7) (s2)) (h:= ?_) | refine RW.aF (And.intro (s7) (s2)) (h:= ?_) | refine RW.ah (h:= ?_)));refine RW.nil ⟨by kernel_rfl,aa.mk (h:= ?_)⟩)
   refine SW.ret ?_
   exact End.mk (H2 a ca m cm) (h3:=HSub.cons rfl (HSub.cons rfl (HSub.cons rfl (HSub.nil _)))) (h4:=⟨rfl,rfl⟩) (h6:=uM a ca m cm (by omega))
  rw [if_neg (fun x=>hoe (hemp.1 x))]
  have qe:((out.length:Int) == 0)=false:=by
   rw [beq_eq_false_iff_ne]
   intro e
   exact hoe (List.eq_nil_of_length_eq_zero (by omega))
  (refine SW.ai [0,1,2,4,5,6,7,8,9,11,12,13,15,16,17,39,54,56,79,94] mixed ?_;(repeat (first | refine RW.ro (qe) (h:= ?_) | refine RW.skip (h:= ?_) | refine RW.op (qe) (h:= ?_) | refine RW.aF (qe) (h:= ?_) | refine RW.ah (h:= ?_)));refine RW.nil ⟨by kernel_rfl,aa.mk (h:= ?_)⟩)
  refine SW.ak rfl (SW.skip (SW.seq ?_))
  have hch:=h.E8 s (by omega) o.aQ L hL (by omega) jJ T
  have co:=fun q=>Is (bM a s) T s (L.map (·.dot)) q
  have cr:=fun r=>za (bM a s) T s (L.map (·.dot)) r
  obtain ⟨E,hE⟩:∃ E,cE (bM a s) T (L.map (·.dot))=E:=⟨_,rfl⟩
  rw [hE] at hch ⊢
  have hCs:E=0→cS (bM a s) T s (L.map (·.dot))=cF (xO T s (L.map (·.dot))):=fun e=>by
   obtain ⟨d1,d2⟩:=vS (hE.trans e)
   exact rB d1 d2
  by_cases hE0:E=0
  ·rw [hCs hE0] at hch ⊢
   subst hE0
   rw [if_pos rfl]
   generalize xO T s (L.map (·.dot))=X at hch ⊢
   (refine SW.ai [0,1,2,4,5,6,7,8,9,11,12,13,15,16,17,39,54,56,79,94] mixed ?_;(repeat (first | refine RW.ro U (h:= ?_) | refine RW.skip (h:= ?_) | refine RW.op U (h:= ?_) | refine RW.aF U (h:= ?_) | refine RW.ah (h:= ?_) | (refine RW.ax (h:= ?_);(first | refine af.mk U (hc:=hch _) (h:= ?_)))));refine RW.nil ⟨by kernel_rfl,aa.mk (h:= ?_)⟩)
   refine SW.seq (SW.seq ?_)
   (refine SW.ai [0,1,2,4,5,6,7,8,9,11,12,13,15,16,17,39,54,56,79,94] mixed ?_;(repeat (first | refine RW.ro U (h:= ?_) | refine RW.skip (h:= ?_) | refine RW.op U (h:= ?_) | refine RW.aF U (h:= ?_) | refine RW.ah (h:= ?_)));refine RW.nil ⟨by kernel_rfl,aa.mk (h:= ?_)⟩)
   refine SW.ak rfl (SW.skip (SW.seq ?_))
   have s3:bE (bE [SV.d DV.ay,SV.d DV.ay] 0 [dD R.1]) 1 [cF X]=[dD R.1,cF X]:=rfl
   have s4:bE [SV.d DV.ay,SV.d DV.ay] 0 [dD R.1,cF X]=[dD R.1,cF X]:=rfl
   clear jJ hch hCs co cr hT esub hE hR hout ecs
   (have fx:=(And.intro (aG.xP) (And.intro (aG.len) (And.intro (aG.one) (And.intro (s3) (s4)))));refine SW.ai [0,1,2,4,5,6,7,8,9,11,12,13,15,16,17,39,54,56,79,94] mixed ?_;(repeat (first | refine RW.ro fx (h:= ?_) | refine RW.skip (h:= ?_) | refine RW.op fx (h:= ?_) | refine RW.aF fx (h:= ?_) | refine RW.ah (h:= ?_)));refine RW.nil ⟨by kernel_rfl,aa.mk (h:= ?_)⟩)
   refine SW.ret ?_
   exact End.mk (H2 a ca m cm) (h3:=HSub.cons rfl (HSub.cons rfl (HSub.cons rfl (HSub.nil _)))) (h4:=⟨rfl,rfl⟩) (h6:=uM a ca m cm (by omega))
  ·generalize cS (bM a s) T s (L.map (·.dot))=Cs at hch co cr ⊢
   (refine SW.ai [0,1,2,4,5,6,7,8,9,11,12,13,15,16,17,39,54,56,79,94] mixed ?_;(repeat (first | refine RW.ro U (h:= ?_) | refine RW.skip (h:= ?_) | refine RW.op U (h:= ?_) | refine RW.aF U (h:= ?_) | refine RW.ah (h:= ?_) | (refine RW.ax (h:= ?_);(first | refine af.mk U (hc:=hch _) (h:= ?_)))));refine RW.nil ⟨by kernel_rfl,aa.mk (h:= ?_)⟩)
   refine SW.seq (SW.seq ?_)
   rw [if_neg hE0]
   have qE:(E != 0)=true:=by rw [bne_iff_ne];exact hE0
   (refine SW.ai [0,1,2,4,5,6,7,8,9,11,12,13,15,16,17,39,54,56,79,94] mixed ?_;(repeat (first | refine RW.ro (qE) (h:= ?_) | refine RW.skip (h:= ?_) | refine RW.op (qE) (h:= ?_) | refine RW.aF (qE) (h:= ?_) | refine RW.ah (h:= ?_)));refine RW.nil ⟨by kernel_rfl,aa.mk (h:= ?_)⟩)
   refine SW.au rfl (SW.seq ?_)
   (refine SW.ai [0,1,2,4,5,6,7,8,9,11,12,13,15,16,17,39,54,56,79,94] mixed ?_;(repeat (first | refine RW.ro (And.intro (s7) (s2)) (h:= ?_) | refine RW.skip (h:= ?_) | refine RW.op (And.intro (s7) (s2)) (h:= ?_) | refine RW.aF (And.intro (s7) (s2)) (h:= ?_) | refine RW.ah (h:= ?_)));refine RW.nil ⟨by kernel_rfl,aa.mk (h:= ?_)⟩)
   refine SW.ret ?_
   exact End.mk (H2 a ca m cm) (h3:=HSub.cons rfl (HSub.cons rfl (HSub.cons rfl (HSub.nil _)))) (h4:=⟨rfl,rfl⟩) (h6:=uM a ca m cm (by omega))
 ·have hn:8≤n∧n<17:=by simpa using hn
  obtain ⟨h1,h2⟩:=hn
  rcases (show n=8∨n=9∨n=10∨n=11∨n=12∨n=13∨n=14∨n=15∨n=16 by omega) with rfl | rfl | rfl | rfl | rfl | rfl | rfl | rfl | rfl <;> simp [mD,iH,eW,ag]
 ·rintro r F' ⟨rfl,rn,hrn,rfl⟩ h1 h2
  have e1:=hrn.ge
  have e2:=hrn.lt
  refine ⟨by simp [SV.ok,SV.aI],?_⟩
  simp [mD,iH,eW,Hp.ok,Ob.ok,SV.aI,SV.ok,SV.bt,aG,CA,oc]
  omega
end
end
section
attribute [local irreducible] SW RW bp SC af aa
theorem xQ (a:MM Dt Cr)(l:List av)(s:List Sp)(o:aq)(D:List Dt)(ρ:Nat→Nat):(fD a l s o D).aV ρ=fD a l s o D:=by
 unfold fD
 split
 ·split
  ·rfl
  ·split
   ·simp only [SV.aV,SV.bh,za];rfl
   ·rfl
 ·rfl
theorem Tn.jg {l0:List aq}{a:MM Dt Cr}{ca:Nat}{m:MM Dt aq}{cm:Nat}(h:Tn l0 a ca m cm)(l:List av)(hl:l.length≤1000)(hb:∀ x,x∈l→lW x)(s:List Sp)(hs:s.length<1000)(jJ:∀ x,x∈s→x.n<18446744073709551616)(o:aq)(ho:o.qW)(j_:o.cl.length≤1000)(L:List Cr)(hL:lZ a (MM.get a o.aQ) L)(xX:L.length<10000)(k:Nat):
  bp Try.prog claim_Submit.f [.ptr 2 0,.agg [dD l,cF s],.agg o.cells] (H2 a ca m cm) k 0 (fD a l s o (L.map (·.dot))) (H2 a ca m cm):=by
 have:=SB.ej [0,1,2] (h.uU l hl hb s hs jJ o ho j_ L hL xX) (by decide) (fun i hi=>by
  match i,hi with
  | 0,_ | 1,_ | 2,_=>simp [ag]) k
 obtain ⟨_,_,m3,m4⟩:=pq a m
 rw [xQ,show Hp.aV (iq [0,1,2] k) (H2 a ca m cm)=H2 a ca m cm by simp [Hp.aV,Ob.aV,SV.bh,SV.aV,iq,m3,m4]] at this
 simpa [SV.bh,SV.aV,iq,aq.aD] using this
set_option maxHeartbeats 4000000 in
theorem ze (l:List av)(hl:l.length≤1000)(hb:∀ x,x∈l→lW x)(s:List Sp)(hs:s.length<1000)(o:aq):
  SB Try.prog claim_Submit.f [.d .ow,.agg [dD l,cF s],.agg o.cells] [] 0 0 (fun r F'=>r= .cg [.agg dP,.agg [dD l,cF s],.d (.int .u8 0)]∧F'=[]):=by
 have oc:∀ q:Nat→Bool,SV.aI q o.cells=true:=aq.aj o
 have z2:bE [SV.d DV.ay,SV.d DV.ay] 0 [SV.gs 4 l.length,SV.gs 6 s.length]=[SV.gs 4 l.length,SV.gs 6 s.length]:=rfl
 have z3:bE (bE [SV.d DV.ay,SV.d DV.ay] 0 [SV.gs 4 l.length]) 1 [SV.gs 6 s.length]=[SV.gs 4 l.length,SV.gs 6 s.length]:=rfl
 refine claim_Submit.enter (by simp [SV.ok,SV.aI,oc]) (by simp [Hp.ok]) (by simp) ?_
 dsimp only [claim_Submit.s,Co.M,Co.G,Co.J,Co.H,Co.N,Co.F,Co.C,Co.Z,Co.B,Co.b8,Co.aA,Co.bz,Co.i6,Co.z8,Co.dm]
 have c1:=fun k=>uH l (by omega) hb k
 have c2:=fun k=>Df o.aQ k
 refine SW.seq ?_
 (refine SW.ai [0,1,2,4,5,6,7,8,9,11,12,13,15,16,17,39,54,56,79,94] mixed ?_;(repeat (first | refine RW.ro U (h:= ?_) | refine RW.skip (h:= ?_) | refine RW.op U (h:= ?_) | refine RW.aF U (h:= ?_) | refine RW.ah (h:= ?_)));refine RW.nil ⟨by kernel_rfl,aa.mk (h:= ?_)⟩)
 refine SW.seq ?_
 (refine SW.ai [0,1,2,4,5,6,7,8,9,11,12,13,15,16,17,39,54,56,79,94] mixed ?_;(repeat (first | refine RW.ro (And.intro (z2) (z3)) (h:= ?_) | refine RW.skip (h:= ?_) | refine RW.op (And.intro (z2) (z3)) (h:= ?_) | refine RW.aF (And.intro (z2) (z3)) (h:= ?_) | refine RW.ah (h:= ?_) | (refine RW.ax (h:= ?_);(first | refine af.mk (And.intro (z2) (z3)) (hc:=c1 _) (h:= ?_)))));refine RW.nil ⟨by kernel_rfl,aa.mk (h:= ?_)⟩)
 have eD:∀ (n len:Nat) (ds xs:List DV),SV.gV n len ds (List.map SV.d xs)=List.map SV.d xs:=fun n len ds xs=>SV.gZ (q:=fun _=>false) rfl _ (SV.bt _)
 have eC:∀ (n len:Nat) (ds:List DV),SV.gV n len ds o.cells=o.cells:=fun n len ds=>SV.gZ (q:=fun _=>false) rfl _ (aq.aj _ _)
 refine SW.jf 6 (s.flatMap Sp.ds) rfl rfl ?_
 simp only [kU,SV.gu,List.map_cons,List.map_nil,if_true,if_false,reduceIte,dx,Nat.reduceEqDiff,sJ,H2,Ob.gu,SV.gV,eD,eC]
 refine SW.jf 4 (l.flatMap av.ds) rfl rfl ?_
 simp only [kU,SV.gu,List.map_cons,List.map_nil,if_true,if_false,reduceIte,dx,Nat.reduceEqDiff,sJ,Ob.gu,SV.gV,eD,eC]
 have s7:bE dP 0 dP=dP:=rfl
 have s2:bE [SV.d DV.ay,SV.d DV.ay] 0 [dD l,cF s]=[dD l,cF s]:=rfl
 refine SW.seq (SW.seq ?_)
 (refine SW.ai [0,1,2,4,5,6,7,8,9,11,12,13,15,16,17,39,54,56,79,94] mixed ?_;(repeat (first | refine RW.ro (o.gP) (h:= ?_) | refine RW.skip (h:= ?_) | refine RW.op (o.gP) (h:= ?_) | refine RW.aF (o.gP) (h:= ?_) | refine RW.ah (h:= ?_) | (refine RW.ax (h:= ?_);(first | refine af.mk (o.gP) (hc:=c2 _) (h:= ?_)))));refine RW.nil ⟨by kernel_rfl,aa.mk (h:= ?_)⟩)
 refine SW.seq ?_
 (refine SW.ai [0,1,2,4,5,6,7,8,9,11,12,13,15,16,17,39,54,56,79,94] mixed ?_;(repeat (first | refine RW.ro U (h:= ?_) | refine RW.skip (h:= ?_) | refine RW.op U (h:= ?_) | refine RW.aF U (h:= ?_) | refine RW.ah (h:= ?_)));refine RW.nil ⟨by kernel_rfl,aa.mk (h:= ?_)⟩)
 refine SW.au rfl (SW.seq ?_)
 (refine SW.ai [0,1,2,4,5,6,7,8,9,11,12,13,15,16,17,39,54,56,79,94] mixed ?_;(repeat (first | refine RW.ro (And.intro (s7) (s2)) (h:= ?_) | refine RW.skip (h:= ?_) | refine RW.op (And.intro (s7) (s2)) (h:= ?_) | refine RW.aF (And.intro (s7) (s2)) (h:= ?_) | refine RW.ah (h:= ?_)));refine RW.nil ⟨by kernel_rfl,aa.mk (h:= ?_)⟩)
 refine SW.ret ?_
 exact End.mk [] (h4:=⟨rfl,rfl⟩)
theorem zf (l:List av)(hl:l.length≤1000)(hb:∀ x,x∈l→lW x)(s:List Sp)(hs:s.length<1000)(o:aq)(k:Nat):
  bp Try.prog claim_Submit.f [.d .ow,.agg [dD l,cF s],.agg o.cells] [] k 0 (.cg [.agg dP,.agg [dD l,cF s],.d (.int .u8 0)]) []:=by
 have h:=SB.new (ze l hl hb s hs o) k
 simpa [SV.aV,SV.bh,Hp.aV,Ob.aV,iq,aq.aD] using h
set_option maxHeartbeats 4000000 in
theorem zg (d c:Dt)(who:Nat)(xs:List av)(hx:xs.length≤1000)(hb:∀ x,x∈xs→lW x)(t:Nat):Go.Sl.Pure Try.prog ref23_SameOrder.f [.agg (aG d c who (fC xs) t),.agg (aG d c who (fC xs) t)] (bl true):=by
 have b0:∀ x:Int,(x != x)=false:=fun x=>bne_self_eq_false x
 have d0:∀ x:Dt,decide (x=x)=true:=fun x=>by simp
 have zs:∀ x:av,bE [.d (.int .u8 0),.d (.int .u32 0),.d (.int .u8 0),.d (.int .u32 0),.d (.int .u32 0),.d (.int .u32 0),.d (.int .u32 0),.d .ay] 0 x.sv=x.sv:=fun x=>rfl
 refine ref23_SameOrder.enter (by first | rfl | simp [SV.ok,SV.aI]) (by first | rfl | simp [Hp.ok,Ob.ok,SV.ok,SV.aI,aS.aj]) (by simp) ?_
 dsimp only [ref23_SameOrder.s,Co.M,Co.G,Co.J,Co.H,Co.N,Co.F,Co.C,Co.Z,Co.B,Co.b8,Co.aA,Co.bz,Co.i6,Co.z8,Co.dm]
 refine SW.seq ?_
 (have fx:=(And.intro (aG.len) (aG.one));refine SW.ai [0,1,2,3,4,5,6,7,42,47,100] mixed ?_;(repeat (first | refine RW.ro fx (h:= ?_) | refine RW.skip (h:= ?_) | refine RW.op fx (h:= ?_) | refine RW.aF fx (h:= ?_) | refine RW.ah (h:= ?_)));refine RW.nil ⟨by kernel_rfl,aa.mk (h:= ?_)⟩)
 refine SW.seq (SW.seq ?_)
 (refine SW.ai [0,1,2,3,4,5,6,7,42,47,100] mixed ?_;(repeat (first | refine RW.ro (And.intro (b0) (d0)) (h:= ?_) | refine RW.skip (h:= ?_) | refine RW.op (And.intro (b0) (d0)) (h:= ?_) | refine RW.aF (And.intro (b0) (d0)) (h:= ?_) | refine RW.ah (h:= ?_)));refine RW.nil ⟨by kernel_rfl,aa.mk (h:= ?_)⟩)
 refine SW.ak rfl (SW.skip ?_)
 refine SW.seq (SW.seq ?_)
 (refine SW.ai [0,1,2,3,4,5,6,7,42,47,100] mixed ?_;(repeat (first | refine RW.ro U (h:= ?_) | refine RW.skip (h:= ?_) | refine RW.op U (h:= ?_) | refine RW.aF U (h:= ?_) | refine RW.ah (h:= ?_)));refine RW.nil ⟨by kernel_rfl,aa.mk (h:= ?_)⟩)
 refine SW.block ?_
 have oko:∀ q:Nat→Bool,SV.aI q (aG d c who (fC xs) t)=true:=fun q=>rfl
 have ou:∀ ρ:Nat→Nat,SV.bh ρ (aG d c who (fC xs) t)=aG d c who (fC xs) t:=fun ρ=>rfl
 refine SW.c8 (α:={i:Nat // i≤xs.length}) (fun i=>⟨[(5,i64 i.1),(2,.ptr 0 0),(3,.ptr 1 0)],[(0,.box 45 (aG d c who (fC xs) t)),(1,.box 45 (aG d c who (fC xs) t))],2⟩) (fun i=>xs.length - i.1) ⟨0,by omega⟩ id (And.intro oko ou) (round:= ?_)
 rintro ⟨i,hi⟩
 dsimp only
 refine SW.seq (SW.seq ?_)
 by_cases h:i<xs.length
 ·have h1:decide ((i:Int)<(xs.length:Int))=true:=by simp only [decide_eq_true_eq];omega
  have e2:IntKind.i64.wrap ((i:Int)+1)=((i+1:Nat):Int):=wrap_i64 _ (by omega)
  obtain ⟨x,hx1⟩:=aL h
  have Bs:=hb x (List.mem_of_getElem? hx1)
  have c1:=fun k=>AK x.ap x.ap Bs.ap Bs.ap k
  have e1:decide (x.ap=x.ap)=true:=by simp
  rw [e1] at c1
  (refine SW.ai [0,1,2,3,4,5,6,7,42,47,100] mixed ?_;(repeat (first | refine RW.ro (h1) (h:= ?_) | refine RW.skip (h:= ?_) | refine RW.op (h1) (h:= ?_) | refine RW.aF (h1) (h:= ?_) | refine RW.ah (h:= ?_)));refine RW.nil ⟨by kernel_rfl,aa.mk (h:= ?_)⟩)
  refine SW.au rfl (SW.skip (SW.seq (SW.block (SW.seq ?_))))
  (have fx:=(And.intro (vn hx1) (And.intro (um hx1) (And.intro (h) (And.intro (zs) (And.intro (x.yx) (x.jZ))))));refine SW.ai [0,1,2,3,4,5,6,7,42,47,100] mixed ?_;(repeat (first | refine RW.ro fx (h:= ?_) | refine RW.skip (h:= ?_) | refine RW.op fx (h:= ?_) | refine RW.aF fx (h:= ?_) | refine RW.ah (h:= ?_)));refine RW.nil ⟨by kernel_rfl,aa.mk (h:= ?_)⟩)
  refine SW.seq ?_
  (have fx:=(And.intro (b0) (And.intro (d0) (x.yx)));refine SW.ai [0,1,2,3,4,5,6,7,42,47,100] mixed ?_;(repeat (first | refine RW.ro fx (h:= ?_) | refine RW.skip (h:= ?_) | refine RW.op fx (h:= ?_) | refine RW.aF fx (h:= ?_) | refine RW.ah (h:= ?_) | (refine RW.ax (h:= ?_);(first | refine af.mk fx (hc:=c1 _) (h:= ?_)))));refine RW.nil ⟨by kernel_rfl,aa.mk (h:= ?_)⟩)
  refine SW.ak rfl (SW.skip ?_)
  (refine SW.ai [0,1,2,3,4,5,6,7,42,47,100] mixed ?_;(repeat (first | refine RW.ro (e2) (h:= ?_) | refine RW.skip (h:= ?_) | refine RW.op (e2) (h:= ?_) | refine RW.aF (e2) (h:= ?_) | refine RW.ah (h:= ?_)));refine RW.nil ⟨by kernel_rfl,aa.mk (h:= ?_)⟩)
  exact ⟨⟨i+1,by omega⟩,id,by show xs.length - (i+1)<xs.length - i;omega,bg.mk (And.intro oko ou)⟩
 have h1:decide ((i:Int)<(xs.length:Int))=false:=by simp only [decide_eq_false_iff_not];omega
 (refine SW.ai [0,1,2,3,4,5,6,7,42,47,100] mixed ?_;(repeat (first | refine RW.ro (h1) (h:= ?_) | refine RW.skip (h:= ?_) | refine RW.op (h1) (h:= ?_) | refine RW.aF (h1) (h:= ?_) | refine RW.ah (h:= ?_)));refine RW.nil ⟨by kernel_rfl,aa.mk (h:= ?_)⟩)
 refine SW.ak rfl (SW.exit (SW.seq ?_))
 (refine SW.ai [0,1,2,3,4,5,6,7,42,47,100] mixed ?_;(repeat (first | refine RW.ro U (h:= ?_) | refine RW.skip (h:= ?_) | refine RW.op U (h:= ?_) | refine RW.aF U (h:= ?_) | refine RW.ah (h:= ?_)));refine RW.nil ⟨by kernel_rfl,aa.mk (h:= ?_)⟩)
 exact SW.ret (End.mk [] (h4:=⟨rfl,rfl⟩))
theorem zh (d c:Dt)(who:Nat)(xs:List av)(hx:xs.length≤1000)(hb:∀ x,x∈xs→lW x)(t k:Nat):bp Try.prog ref23_SameOrder.f [.agg (aG d c who (fC xs) t),.agg (aG d c who (fC xs) t)] [] k 0 (bl true) []:=(zg d c who xs hx hb t).sc rfl k
end
section
section
attribute [local irreducible] SW RW bp SC af aa
set_option maxRecDepth 100000 in
theorem Jc {P:Program}{env:List (Nat×SV)}{hp:Hp}{k d p:Nat}{r:List SI}{K:St→List (Bool×List Nat)→Prop}{a:aq}{z:List SV}(hz:z=Jh)
  (ha:env.lookup p=some (.agg a.cells))
  (h:RW P r ⟨(d,ops [a])::env,hp,k⟩ fun st' ts=>K st' ((false,[])::ts)):RW P (⟨some d,.jL 35 29 1 z [(0,29,.t p)],none⟩::r) ⟨env,hp,k⟩ K:=by
 subst hz
 refine RW.cons (e:=⟨ops [a],[],[],0,((29=29∧0+29≤29∧True))⟩) (fun dw=>⟨.gu::dw,eP (.inl rfl) ?_⟩) (by show 29=29∧0+29≤29∧True;decide) ?_
 ·have h1:vU (fun t=>env.lookup t) [(0,29,X.t p)]=some [(0,29,.agg a.cells)]:=by
   simp only [vU,ev,ha]
  have h2:kL Jh [(0,29,.agg a.cells)]=some (a.cells,((29=29∧0+29≤29∧True))):=rfl
  have h3:dF a.cells=some ([a].flatMap aq.ds):=rfl
  have h4:a.cells.all SV.cL=true:=rfl
  simp only [ek,cQ,h1,h2,h3,h4,if_true,Bool.false_or]
  rfl
 ·exact h
end
abbrev DJ:List aq:=[gO]
abbrev E_:MM Dt Cr:=[(0,⟨0,1⟩,c1)]
theorem G8 (k:Nat):(cU DJ k).at_=E_:=by
 show (mG DJ).at_=_
 kernel_rfl
def la:av:=⟨⟨0,2⟩,0,2,10,⟨0,2⟩,[7],[],0⟩
def lb:av:=⟨⟨0,3⟩,0,1,5,⟨0,3⟩,[],[],0⟩
def kA:Cm:=⟨⟨0,2⟩,⟨0,2⟩⟩
def kB:Cm:=⟨⟨0,3⟩,⟨0,3⟩⟩
def oH (who:Nat)(cl:List Cm):aq:=⟨⟨0,9⟩,aS.zero,0,who,⟨0,1⟩,8,⟨0,1⟩,0,0,0,0,⟨0,0⟩,⟨0,0⟩,0,0,0,.sl cl.length (cl.flatMap Cm.ds)⟩
theorem j3 (who:Nat)(cl:List Cm)(h:cl.length≤1000):(oH who cl).qW∧(oH who cl).cl=cl:=aq.qW.of rfl (by omega)
abbrev G9:List Sp:=[⟨⟨0,1⟩,20⟩]
abbrev FP:List Sp:=[⟨⟨0,1⟩,1099511627757⟩]
section
attribute [local irreducible] SW RW bp SC af aa
variable {a:MM Dt Cr} {ca:Nat} {m:MM Dt aq} {cm:Nat} (h:Tn DJ a ca m cm)
include h
theorem Tn.E_:a=Go.Proofs.Ytefjaphfnkbbkaa.E_:=by
 have:=G8 0
 rw [h.new] at this;exact this
theorem Tn.h1:lZ a (MM.get a ⟨0,1⟩) [c1]:=by
 rw [h.E_]
 exact .root c1 (by decide)
theorem tw:∀ x,x∈[la,lb]→lW x:=fun x hx=>by
 simp only [List.mem_cons,List.not_mem_nil,or_false] at hx
 rcases hx with rfl | rfl <;> exact ⟨by decide,by decide⟩
theorem Dy:∀ x,x∈[la.gi,lb]→lW x:=fun x hx=>by
 simp only [List.mem_cons,List.not_mem_nil,or_false] at hx
 rcases hx with rfl | rfl <;> exact ⟨by decide,by decide⟩
theorem Tn.b1 (k:Nat):bp Try.prog claim_Submit.f [.ptr 2 0,.agg [dD [la,lb],cF []],.agg (oH 1 [kA,kB]).cells] (H2 a ca m cm) k 0 (.cg [.agg (aG ⟨0,9⟩ ⟨0,1⟩ 1 (fC [la.gi]) 20),.agg [dD [la.gi,lb],cF G9],.d (.int .u8 1)]) (H2 a ca m cm):=by
 have:=h.jg [la,lb] (by decide) (tw h) [] (by decide) (by simp) (oH 1 [kA,kB]) (j3 _ _ (by decide)).1 (by rw [(j3 1 [kA,kB] (by decide)).2];decide) [c1] h.h1 (by decide) k
 rwa [show fD a [la,lb] [] (oH 1 [kA,kB]) ([c1].map (·.dot))= .cg [.agg (aG ⟨0,9⟩ ⟨0,1⟩ 1 (fC [la.gi]) 20),.agg [dD [la.gi,lb],cF G9],.d (.int .u8 1)] by rw [h.E_];kernel_rfl] at this
theorem Tn.b2 (k:Nat):bp Try.prog claim_Submit.f [.ptr 2 0,.agg [dD [la.gi,lb],cF G9],.agg (oH 1 [kA,kB]).cells] (H2 a ca m cm) k 0 (.cg [.agg dP,.agg [dD [la.gi,lb],cF G9],.d (.int .u8 4)]) (H2 a ca m cm):=by
 have:=h.jg [la.gi,lb] (by decide) (Dy h) G9 (by decide) (by decide) (oH 1 [kA,kB]) (j3 _ _ (by decide)).1 (by rw [(j3 1 [kA,kB] (by decide)).2];decide) [c1] h.h1 (by decide) k
 rwa [show fD a [la.gi,lb] G9 (oH 1 [kA,kB]) ([c1].map (·.dot))= .cg [.agg dP,.agg [dD [la.gi,lb],cF G9],.d (.int .u8 4)] by rw [h.E_];kernel_rfl] at this
theorem Tn.b3 (k:Nat):bp Try.prog claim_Submit.f [.ptr 2 0,.agg [dD [la,lb],cF []],.agg (oH 1 [kB]).cells] (H2 a ca m cm) k 0 (.cg [.agg dP,.agg [dD [la,lb],cF []],.d (.int .u8 4)]) (H2 a ca m cm):=by
 have:=h.jg [la,lb] (by decide) (tw h) [] (by decide) (by simp) (oH 1 [kB]) (j3 _ _ (by decide)).1 (by rw [(j3 1 [kB] (by decide)).2];decide) [c1] h.h1 (by decide) k
 rwa [show fD a [la,lb] [] (oH 1 [kB]) ([c1].map (·.dot))= .cg [.agg dP,.agg [dD [la,lb],cF []],.d (.int .u8 4)] by rw [h.E_];kernel_rfl] at this
theorem Tn.b4 (k:Nat):bp Try.prog claim_Submit.f [.ptr 2 0,.agg [dD [la,lb],cF []],.agg (oH 7 [kA,kB]).cells] (H2 a ca m cm) k 0 (.cg [.agg dP,.agg [dD [la,lb],cF []],.d (.int .u8 4)]) (H2 a ca m cm):=by
 have:=h.jg [la,lb] (by decide) (tw h) [] (by decide) (by simp) (oH 7 [kA,kB]) (j3 _ _ (by decide)).1 (by rw [(j3 7 [kA,kB] (by decide)).2];decide) [c1] h.h1 (by decide) k
 rwa [show fD a [la,lb] [] (oH 7 [kA,kB]) ([c1].map (·.dot))= .cg [.agg dP,.agg [dD [la,lb],cF []],.d (.int .u8 4)] by rw [h.E_];kernel_rfl] at this
theorem Tn.b5 (k:Nat):bp Try.prog claim_Submit.f [.ptr 2 0,.agg [dD [la,lb],cF FP],.agg (oH 1 [kA,kB]).cells] (H2 a ca m cm) k 0 (.cg [.agg dP,.agg [dD [la,lb],cF FP],.d (.int .u8 3)]) (H2 a ca m cm):=by
 have:=h.jg [la,lb] (by decide) (tw h) FP (by decide) (by decide) (oH 1 [kA,kB]) (j3 _ _ (by decide)).1 (by rw [(j3 1 [kA,kB] (by decide)).2];decide) [c1] h.h1 (by decide) k
 rwa [show fD a [la,lb] FP (oH 1 [kA,kB]) ([c1].map (·.dot))= .cg [.agg dP,.agg [dD [la,lb],cF FP],.d (.int .u8 3)] by rw [h.E_];kernel_rfl] at this
end
end
section
attribute [local irreducible] SW RW bp SC af aa
set_option maxRecDepth 100000 in
theorem Fa {P:Program}{env:List (Nat×SV)}{hp:Hp}{k d t sz n:Nat}{r:List SI}{K:St→List (Bool×List Nat)→Prop}{z:List SV}{ps:List (Nat×Nat×X)}{pv:List (Nat×Nat×SV)}{cs:List SV}{ob:Prop}{ds:List DV}
  (h1:vU (fun t=>env.lookup t) ps=some pv) (h2:kL z pv=some (cs,ob)) (h3:dF cs=some ds) (h4:cs.all SV.cL=true) (hb:ob) (hn:(n == 0)=false)
  (h:RW P r ⟨(d,.d (.sl n ds))::env,hp,k⟩ fun st' ts=>K st' ((false,[])::ts)):RW P (⟨some d,.jL t sz n z ps,none⟩::r) ⟨env,hp,k⟩ K:=by
 refine RW.cons (e:=⟨.d (.sl n ds),[],[],0,ob⟩) (fun dw=>⟨.gu::dw,eP (.inl rfl) ?_⟩) hb ?_
 ·simp only [ek,cQ,h1,h2,h3,h4,hn,if_true,Bool.false_or,Bool.false_eq_true,if_false]
 ·exact h
theorem Dz:bE (Dt.mk 0 0).cells 1 [.d (.int .u32 1)]=(Dt.mk 0 1).cells:=rfl
theorem It:bE (Dt.mk 0 0).cells 1 [.d (.int .u32 2)]=(Dt.mk 0 2).cells:=rfl
theorem Iu:bE (Dt.mk 0 0).cells 1 [.d (.int .u32 3)]=(Dt.mk 0 3).cells:=rfl
theorem Iv:bE (Dt.mk 0 0).cells 1 [.d (.int .u32 9)]=(Dt.mk 0 9).cells:=rfl
theorem Fb:bE (bE (bE (bE aq.zero.cells 0 (Dt.mk 0 1).cells) 10 [.d (.int .u64 1)]) 11 [.d (.int .u32 1)]) 12 (Dt.mk 0 1).cells=gO.cells:=rfl
theorem wO:bE (bE (bE ((oH 1 [kA,kB]).dot.cells++((Dt.mk 0 1).cells++[.d (.int .u32 0),.d .ay,.d (.int .u64 0)])) 4 [.d (.int .u32 1)]) 6 [.d (.int .u64 20)]) 5 [.d (.sl 1 [.int .u8 0,.int .u32 2,.int .u8 0,.int .u32 2,.int .u32 0,.int .u32 2,.int .u32 10,.sl 1 [.int .u32 7]])]=aG ⟨0,9⟩ ⟨0,1⟩ 1 (fC [la.gi]) 20:=rfl
theorem Iw:bE (bE (bE (bE (bE (bE aq.zero.cells 0 (Dt.mk 0 9).cells) 14 [.d (.int .u8 8)]) 12 (Dt.mk 0 1).cells) 15 (Dt.mk 0 1).cells) 11 [.d (.int .u32 1)]) 28 [.d (.sl 2 [.int .u8 0,.int .u32 2,.int .u8 0,.int .u32 2,.int .u8 0,.int .u32 3,.int .u8 0,.int .u32 3])]=(oH 1 [kA,kB]).cells:=rfl
set_option maxRecDepth 100000 in
set_option maxHeartbeats 16000000 in
theorem Bq:Go.Sl.Pure Try.prog law23_head.f [] (bl true):=by
 obtain ⟨a,ca,m,cm,h⟩:=z7 DJ
 obtain ⟨m1,m2,m3,m4⟩:=pq a m
 refine law23_head.enter (by first | rfl | simp [SV.ok,SV.aI]) (by first | rfl | simp [Hp.ok,Ob.ok,SV.ok,SV.aI,aS.aj]) (by simp) ?_
 dsimp only [law23_head.s,Co.M,Co.G,Co.J,Co.H,Co.N,Co.F,Co.C,Co.Z,Co.B,Co.b8,Co.aA,Co.bz,Co.i6,Co.z8,Co.dm]
 refine SW.seq ?_
 (refine SW.ai [0,1,2,3,4,5,6,7,8,9,12,13,14,15,18,21,24,27,28] mixed ?_;(repeat (first | refine RW.ro U (h:= ?_) | refine RW.skip (h:= ?_) | refine RW.op U (h:= ?_) | refine RW.aF U (h:= ?_) | refine RW.ah (h:= ?_)));refine RW.nil ⟨by kernel_rfl,aa.mk (h:= ?_)⟩)
 refine SW.seq ?_
 (refine SW.ai [0,1,2,3,4,5,6,7,8,9,12,13,14,15,18,21,24,27,28] mixed ?_;(repeat (first | refine RW.ro (Dz) (h:= ?_) | refine RW.skip (h:= ?_) | refine RW.op (Dz) (h:= ?_) | refine RW.aF (Dz) (h:= ?_) | refine RW.ah (h:= ?_)));refine RW.nil ⟨by kernel_rfl,aa.mk (h:= ?_)⟩)
 refine SW.seq ?_
 (refine SW.ai [0,1,2,3,4,5,6,7,8,9,12,13,14,15,18,21,24,27,28] mixed ?_;(repeat (first | refine RW.ro (Fb) (h:= ?_) | refine RW.skip (h:= ?_) | refine RW.op (Fb) (h:= ?_) | refine RW.aF (Fb) (h:= ?_) | refine RW.ah (h:= ?_) | refine Jc rfl rfl (h:= ?_) | (refine RW.ax (h:= ?_);(first | refine af.mk (Fb) (hc:=h.Ip (by decide)) (h:= ?_)))));refine RW.nil ⟨by kernel_rfl,aa.mk (h:= ?_)⟩)
 have u1:∀ n:Nat,n<0→False:=by omega
 refine SW.weak (fun n=>if n=0 then 1 else if n=1 then 2 else if n=2 then 3 else if n=3 then 0 else n) (st1:=⟨[(1,.ptr 3 0),(2,.ptr 2 0)],(3,.box 29 (Dt.mk 0 1).cells)::H2 a ca m cm,4⟩) (bg.mk (And.intro m1 (And.intro m2 (And.intro m3 m4)))) ?_
 refine SW.seq ?_
 (have fx:=(And.intro (It) (Iu));refine SW.ai [0,1,2,3,4,5,6,7,8,9,12,13,14,15,18,21,24,27,28] mixed ?_;(repeat (first | refine RW.ro fx (h:= ?_) | refine RW.skip (h:= ?_) | refine RW.op fx (h:= ?_) | refine RW.aF fx (h:= ?_) | refine RW.ah (h:= ?_)));refine RW.nil ⟨by kernel_rfl,aa.mk (h:= ?_)⟩)
 refine SW.seq ?_
 have sp1:∀ x:SV,bE [SV.d DV.ay,SV.d DV.ay] 0 [x]=[x,SV.d DV.ay]:=fun x=>rfl
 have sp2:∀ x y:SV,bE [SV.d DV.ay,SV.d DV.ay] 0 [x,y]=[x,y]:=fun x y=>rfl
 (refine SW.ai [0,1,2,3,4,5,6,7,8,9,12,13,14,15,18,21,24,27,28] mixed ?_;(repeat (first | refine RW.ro (And.intro (sp1) (sp2)) (h:= ?_) | refine RW.skip (h:= ?_) | refine RW.op (And.intro (sp1) (sp2)) (h:= ?_) | refine RW.aF (And.intro (sp1) (sp2)) (h:= ?_) | refine RW.ah (h:= ?_) | refine Fa rfl rfl rfl rfl (by decide) rfl (h:= ?_)));refine RW.nil ⟨by kernel_rfl,aa.mk (h:= ?_)⟩)
 refine SW.H9 6 (cs':=[dD [la,lb],cF []]) rfl (fun p μ M vs hv=>vi (iR (fun _ h=>h)) vs hv) ?_
 simp only [ia,Nat.reduceEqDiff,if_true,if_false,reduceIte]
 refine SW.seq ?_
 (have fx:=(And.intro (Iv) (Iw));refine SW.ai [0,1,2,3,4,5,6,7,8,9,12,13,14,15,18,21,24,27,28] mixed ?_;(repeat (first | refine RW.ro fx (h:= ?_) | refine RW.skip (h:= ?_) | refine RW.op fx (h:= ?_) | refine RW.aF fx (h:= ?_) | refine RW.ah (h:= ?_) | refine Fa rfl rfl rfl rfl (by decide) rfl (h:= ?_)));refine RW.nil ⟨by kernel_rfl,aa.mk (h:= ?_)⟩)
 have s7:bE dP 0 dP=dP:=rfl
 have oc:∀ (q:Nat→Bool) (o:aq),SV.aI q o.cells=true:=fun q o=>aq.aj o q
 refine SW.seq ?_
 (have fx:=(And.intro (aG.xP) (And.intro (aG.len) (And.intro (aG.one) (sp2))));refine SW.ai [0,1,2,3,4,5,6,7,8,9,12,13,14,15,18,21,24,27,28] mixed ?_;(repeat (first | refine RW.ro fx (h:= ?_) | refine RW.skip (h:= ?_) | refine RW.op fx (h:= ?_) | refine RW.aF fx (h:= ?_) | refine RW.ah (h:= ?_) | (refine RW.ax (h:= ?_);(first | refine af.mk fx (hc:=h.b1 _) (h:= ?_) | refine af.mk fx (hc:=h.b2 _) (h:= ?_) | refine af.mk fx (hc:=h.b3 _) (h:= ?_) | refine af.mk fx (hc:=h.b4 _) (h:= ?_) | refine af.mk fx (hc:=h.b5 _) (h:= ?_)))));refine RW.nil ⟨by kernel_rfl,aa.mk (h:= ?_)⟩)
 refine SW.seq ?_
 (refine SW.ai [0,1,2,3,4,5,6,7,8,9,12,13,14,15,18,21,24,27,28] mixed ?_;(repeat (first | refine RW.ro (And.intro (s7) (sp2)) (h:= ?_) | refine RW.skip (h:= ?_) | refine RW.op (And.intro (s7) (sp2)) (h:= ?_) | refine RW.aF (And.intro (s7) (sp2)) (h:= ?_) | refine RW.ah (h:= ?_) | (refine RW.ax (h:= ?_);(first | refine af.mk (And.intro (s7) (sp2)) (hc:=h.b1 _) (h:= ?_) | refine af.mk (And.intro (s7) (sp2)) (hc:=h.b2 _) (h:= ?_) | refine af.mk (And.intro (s7) (sp2)) (hc:=h.b3 _) (h:= ?_) | refine af.mk (And.intro (s7) (sp2)) (hc:=h.b4 _) (h:= ?_) | refine af.mk (And.intro (s7) (sp2)) (hc:=h.b5 _) (h:= ?_)))));refine RW.nil ⟨by kernel_rfl,aa.mk (h:= ?_)⟩)
 refine SW.seq ?_
 (refine SW.ai [0,1,2,3,4,5,6,7,8,9,12,13,14,15,18,21,24,27,28] mixed ?_;(repeat (first | refine RW.ro (sp2) (h:= ?_) | refine RW.skip (h:= ?_) | refine RW.op (sp2) (h:= ?_) | refine RW.aF (sp2) (h:= ?_) | refine RW.ah (h:= ?_) | (refine RW.ax (h:= ?_);(first | refine af.mk (sp2) (hc:=h.b1 _) (h:= ?_) | refine af.mk (sp2) (hc:=h.b2 _) (h:= ?_) | refine af.mk (sp2) (hc:=h.b3 _) (h:= ?_) | refine af.mk (sp2) (hc:=h.b4 _) (h:= ?_) | refine af.mk (sp2) (hc:=h.b5 _) (h:= ?_)))));refine RW.nil ⟨by kernel_rfl,aa.mk (h:= ?_)⟩)
 refine SW.seq ?_
 have lnH:(oH 1 [kA,kB]).lines= .sl 2 [.int .u8 0,.int .u32 2,.int .u8 0,.int .u32 2,.int .u8 0,.int .u32 3,.int .u8 0,.int .u32 3]:=rfl
 have lnS:bE (oH 1 [kA,kB]).cells 28 [SV.d (.sl (2 - 1) [.int .u8 0,.int .u32 3,.int .u8 0,.int .u32 3])]=(oH 1 [kB]).cells:=rfl
 have lnW:bE (oH 1 [kA,kB]).cells 11 [SV.d (.int .u32 7)]=(oH 7 [kA,kB]).cells:=rfl
 have sp1':∀ x y:SV,bE [x,y] 1 [cF FP]=[x,cF FP]:=fun x y=>rfl
 have sp1'':bE [dD [la,lb],cF []] 1 [SV.d (.sl 1 [.int .u8 0,.int .u32 1,.int .u64 1099511627757])]=[dD [la,lb],cF FP]:=rfl
 (refine SW.ai [0,1,2,3,4,5,6,7,8,9,12,13,14,15,18,21,24,27,28] mixed ?_;(repeat (first | refine RW.ro (And.intro (lnH) (lnS)) (h:= ?_) | refine RW.skip (h:= ?_) | refine RW.op (And.intro (lnH) (lnS)) (h:= ?_) | refine RW.aF (And.intro (lnH) (lnS)) (h:= ?_) | refine RW.ah (h:= ?_) | (refine RW.ax (h:= ?_);(first | refine af.mk (And.intro (lnH) (lnS)) (hc:=h.b1 _) (h:= ?_) | refine af.mk (And.intro (lnH) (lnS)) (hc:=h.b2 _) (h:= ?_) | refine af.mk (And.intro (lnH) (lnS)) (hc:=h.b3 _) (h:= ?_) | refine af.mk (And.intro (lnH) (lnS)) (hc:=h.b4 _) (h:= ?_) | refine af.mk (And.intro (lnH) (lnS)) (hc:=h.b5 _) (h:= ?_)))));refine RW.nil ⟨by kernel_rfl,aa.mk (h:= ?_)⟩)
 refine SW.seq ?_
 (refine SW.ai [0,1,2,3,4,5,6,7,8,9,12,13,14,15,18,21,24,27,28] mixed ?_;(repeat (first | refine RW.ro (lnW) (h:= ?_) | refine RW.skip (h:= ?_) | refine RW.op (lnW) (h:= ?_) | refine RW.aF (lnW) (h:= ?_) | refine RW.ah (h:= ?_) | (refine RW.ax (h:= ?_);(first | refine af.mk (lnW) (hc:=h.b1 _) (h:= ?_) | refine af.mk (lnW) (hc:=h.b2 _) (h:= ?_) | refine af.mk (lnW) (hc:=h.b3 _) (h:= ?_) | refine af.mk (lnW) (hc:=h.b4 _) (h:= ?_) | refine af.mk (lnW) (hc:=h.b5 _) (h:= ?_)))));refine RW.nil ⟨by kernel_rfl,aa.mk (h:= ?_)⟩)
 refine SW.seq ?_
 (refine SW.ai [0,1,2,3,4,5,6,7,8,9,12,13,14,15,18,21,24,27,28] mixed ?_;(repeat (first | refine RW.ro (sp1'') (h:= ?_) | refine RW.skip (h:= ?_) | refine RW.op (sp1'') (h:= ?_) | refine RW.aF (sp1'') (h:= ?_) | refine RW.ah (h:= ?_) | refine Fa rfl rfl rfl rfl (by decide) rfl (h:= ?_) | (refine RW.ax (h:= ?_);(first | refine af.mk (sp1'') (hc:=h.b1 _) (h:= ?_) | refine af.mk (sp1'') (hc:=h.b2 _) (h:= ?_) | refine af.mk (sp1'') (hc:=h.b3 _) (h:= ?_) | refine af.mk (sp1'') (hc:=h.b4 _) (h:= ?_) | refine af.mk (sp1'') (hc:=h.b5 _) (h:= ?_)))));refine RW.nil ⟨by kernel_rfl,aa.mk (h:= ?_)⟩)
 refine SW.seq ?_
 (refine SW.ai [0,1,2,3,4,5,6,7,8,9,12,13,14,15,18,21,24,27,28] mixed ?_;(repeat (first | refine RW.ro (And.intro (s7) (sp2)) (h:= ?_) | refine RW.skip (h:= ?_) | refine RW.op (And.intro (s7) (sp2)) (h:= ?_) | refine RW.aF (And.intro (s7) (sp2)) (h:= ?_) | refine RW.ah (h:= ?_) | (refine RW.ax (h:= ?_);(first | refine af.mk (And.intro (s7) (sp2)) (hc:=h.b1 _) (h:= ?_) | refine af.mk (And.intro (s7) (sp2)) (hc:=h.b2 _) (h:= ?_) | refine af.mk (And.intro (s7) (sp2)) (hc:=h.b3 _) (h:= ?_) | refine af.mk (And.intro (s7) (sp2)) (hc:=h.b4 _) (h:= ?_) | refine af.mk (And.intro (s7) (sp2)) (hc:=h.b5 _) (h:= ?_)))));refine RW.nil ⟨by kernel_rfl,aa.mk (h:= ?_)⟩)
 refine SW.seq ?_
 (refine SW.ai [0,1,2,3,4,5,6,7,8,9,12,13,14,15,18,21,24,27,28] mixed ?_;(repeat (first | refine RW.ro (And.intro (s7) (sp2)) (h:= ?_) | refine RW.skip (h:= ?_) | refine RW.op (And.intro (s7) (sp2)) (h:= ?_) | refine RW.aF (And.intro (s7) (sp2)) (h:= ?_) | refine RW.ah (h:= ?_) | (refine RW.ax (h:= ?_);(first | refine af.mk (And.intro (s7) (sp2)) (hc:=h.b1 _) (h:= ?_) | refine af.mk (And.intro (s7) (sp2)) (hc:=h.b2 _) (h:= ?_) | refine af.mk (And.intro (s7) (sp2)) (hc:=h.b3 _) (h:= ?_) | refine af.mk (And.intro (s7) (sp2)) (hc:=h.b4 _) (h:= ?_) | refine af.mk (And.intro (s7) (sp2)) (hc:=h.b5 _) (h:= ?_)))));refine RW.nil ⟨by kernel_rfl,aa.mk (h:= ?_)⟩)
 refine SW.seq ?_
 (refine SW.ai [0,1,2,3,4,5,6,7,8,9,12,13,14,15,18,21,24,27,28] mixed ?_;(repeat (first | refine RW.ro (And.intro (s7) (sp2)) (h:= ?_) | refine RW.skip (h:= ?_) | refine RW.op (And.intro (s7) (sp2)) (h:= ?_) | refine RW.aF (And.intro (s7) (sp2)) (h:= ?_) | refine RW.ah (h:= ?_) | (refine RW.ax (h:= ?_);(first | refine af.mk (And.intro (s7) (sp2)) (hc:=h.b1 _) (h:= ?_) | refine af.mk (And.intro (s7) (sp2)) (hc:=h.b2 _) (h:= ?_) | refine af.mk (And.intro (s7) (sp2)) (hc:=h.b3 _) (h:= ?_) | refine af.mk (And.intro (s7) (sp2)) (hc:=h.b4 _) (h:= ?_) | refine af.mk (And.intro (s7) (sp2)) (hc:=h.b5 _) (h:= ?_)))));refine RW.nil ⟨by kernel_rfl,aa.mk (h:= ?_)⟩)
 refine SW.seq ?_
 (refine SW.ai [0,1,2,3,4,5,6,7,8,9,12,13,14,15,18,21,24,27,28] mixed ?_;(repeat (first | refine RW.ro (And.intro (s7) (sp2)) (h:= ?_) | refine RW.skip (h:= ?_) | refine RW.op (And.intro (s7) (sp2)) (h:= ?_) | refine RW.aF (And.intro (s7) (sp2)) (h:= ?_) | refine RW.ah (h:= ?_) | (refine RW.ax (h:= ?_);(first | refine af.mk (And.intro (s7) (sp2)) (hc:=zf [la,lb] (by decide) (tw h) [] (by decide) (oH 1 [kA,kB]) _) (h:= ?_)))));refine RW.nil ⟨by kernel_rfl,aa.mk (h:= ?_)⟩)
 refine SW.seq ?_
 (have fx:=(And.intro (wO) (And.intro (aG.xP) (And.intro (aG.len) (aG.one))));refine SW.ai [0,1,2,3,4,5,6,7,8,9,12,13,14,15,18,21,24,27,28] mixed ?_;(repeat (first | refine RW.ro fx (h:= ?_) | refine RW.skip (h:= ?_) | refine RW.op fx (h:= ?_) | refine RW.aF fx (h:= ?_) | refine RW.ah (h:= ?_) | refine Fa rfl rfl rfl rfl (by decide) rfl (h:= ?_)));refine RW.nil ⟨by kernel_rfl,aa.mk (h:= ?_)⟩)
 refine SW.seq ?_
 (refine SW.ai [0,1,2,3,4,5,6,7,8,9,12,13,14,15,18,21,24,27,28] mixed ?_;(repeat (first | refine RW.ro (aG.len) (h:= ?_) | refine RW.skip (h:= ?_) | refine RW.op (aG.len) (h:= ?_) | refine RW.aF (aG.len) (h:= ?_) | refine RW.ah (h:= ?_) | (refine RW.ax (h:= ?_);(first | refine af.mk (aG.len) (hc:=zh ⟨0,9⟩ ⟨0,1⟩ 1 [la.gi] (by decide) (fun x hx=>Dy h x (by simp at hx;simp [hx])) 20 _) (h:= ?_)))));refine RW.nil ⟨by kernel_rfl,aa.mk (h:= ?_)⟩)
 refine SW.ret ?_
 exact End.mk [] (h4:=⟨rfl,rfl⟩)
theorem bk (k:Nat):bp Try.prog law23_head.f [] [] k 0 (bl true) []:=Bq.sc rfl k
end
end Go.Proofs.Ytefjaphfnkbbkaa
