/-
 Trees of credentials: why a grant makes no credential; Get.
-/
import Derived.Test.YtaelhkkjgfobhaaGreatU6
import Derived.Test.YtaelhkkjgfobhaaGreatUA
set_option linter.unusedSectionVars false
set_option linter.unusedVariables false
set_option linter.unusedSimpArgs false
namespace Go.Proofs.YtaelhkkjgfobhaaGreat
open Go.Sl Go.Proofs
section
def Tr.wh (T:Tr)(there:Bool)(c:Cr)(o:ag)(b6 b5 b3 b2:Nat):Hp:=(b6,.box 4 [bl there])::(b5,.box 158 c.cells)::(b3,.box 43 o.cells)::(b2,.box 105 [.ptr T.bx 0])::T.hp
def Tr.by (T:Tr)(o:ag):Cr:=(MM.get T.at_ o.aV).getD Cr.zero
def Tr.is (T:Tr)(o:ag):Bool:=MM.has T.at_ o.aV
def Tr.tW (T:Tr)(o:ag):ag:=(MM.get T.made o.aV).getD ag.zero
def Tr.fS (T:Tr)(o:ag):Bool:=(!T.is o || !decide ((T.by o).aQ=o.aQ)) || !(T.tW o).before o
def Tr.why (T:Tr)(o:ag):Nat:=
 if o.kind≠1 then 2 else if T.fS o then 272 else if (T.by o).hold≠o.who then 273 else if bits .and .u8 ((T.by o).aN:Int) 1 == 0 then 274 else if gh o (T.by o) then 275 else 0
section
attribute [local irreducible] SW RW aG SC aj an Tr.hp
variable {T:Tr} (hs:T.sep)
include hs in
theorem F7 (o:ag){k n:Nat}(hlt:T.lt k)(hn:k+4≤n):aG Tryz.prog tree_Tree_Why_2.f [.ptr (k+3) 0,.ptr (k+2) 0,.ptr (k+1) 0,.ptr k 0] (T.wh (T.is o) (T.by o) o (k+3) (k+2) (k+1) k) n 0 (bl (T.fS o)) (T.wh (T.is o) (T.by o) o (k+3) (k+2) (k+1) k):=by
 have hb:=hlt.b
 have ha:=hlt.a
 have hmm:=hlt.m
 have hok:∀ q:Nat→Bool,q (k+3)=true→q (k+2)=true→q (k+1)=true→q k=true→q T.bx=true→q T.ma=true→q T.mm=true→Hp.ok q (T.wh (T.is o) (T.by o) o (k+3) (k+2) (k+1) k)=true:=fun q h1 h2 h3 h4 h5 h6 h7=>
  au h1 rfl (au h2 (by simp [Ob.ok]) (au h3 (by simp [Ob.ok]) (au h4 (by simp [Ob.ok,SV.av,SV.ok,h5]) (Tr.Lo h5 h6 h7))))
 have hl:∀ m,m=k+3∨m=k+2∨m=k+1∨m=k∨m=T.bx∨m=T.ma∨m=T.mm→(lk (T.wh (T.is o) (T.by o) o (k+3) (k+2) (k+1) k) m).isSome=true:=fun m hm=>by
  unfold Tr.wh
  repeat (rw [aa];split;· rfl)
  rcases hm with h | h | h | h | h | h | h
  ·omega
  ·omega
  ·omega
  ·omega
  ·rw [h,T.HO];rfl
  ·rw [h,Tr.JN hs];rfl
  ·rw [h,Tr.LO hs];rfl
 refine SB.same ?_ (hok _ (hl _ (by simp)) (hl _ (by simp)) (hl _ (by simp)) (hl _ (by simp)) (hl _ (by simp)) (hl _ (by simp)) (hl _ (by simp))) (by simp only [SV.av,SV.ok,hl _ (.inl rfl),hl _ (.inr (.inl rfl)),hl _ (.inr (.inr (.inl rfl))),hl _ (.inr (.inr (.inr (.inl rfl))))];rfl) (fun _=>rfl)
 have hokk:Hp.ok (fun m=>decide (m<n)) (T.wh (T.is o) (T.by o) o (k+3) (k+2) (k+1) k)=true:=hok _ (by simp;omega) (by simp;omega) (by simp;omega) (by simp;omega) (by simp;omega) (by simp;omega) (by simp;omega)
 refine tree_Tree_Why_2.enter (by simp [SV.av,SV.ok];omega) hokk (by simp) ?_
 dsimp only [tree_Tree_Why_2.s,Co.M,Co.G,Co.J,Co.H,Co.N,Co.F,Co.C,Co.Z,Co.B,Co.b8,Co.ay,Co.bz,Co.i6,Co.z8,Co.bC]
 have u1:List.lookup T.bx T.hp=some (.box 166 [.mp T.ma,.mp T.mm]):=T.HO
 have u3:List.lookup T.mm T.hp=some T.om:=Tr.LO hs
 have n1:=bt (show T.bx≠k+3 by omega)
 have n2:=bt (show T.bx≠k+2 by omega)
 have n3:=bt (show T.bx≠k+1 by omega)
 have n4:=bt (show T.bx≠k by omega)
 have m1:=bt (show T.mm≠k+3 by omega)
 have m2:=bt (show T.mm≠k+2 by omega)
 have m3:=bt (show T.mm≠k+1 by omega)
 have m4:=bt (show T.mm≠k by omega)
 have p1:=bt (show k+3≠k+2 by omega)
 have p2:=bt (show k+3≠k+1 by omega)
 have p3:=bt (show k+3≠k by omega)
 have p4:=bt (show k+2≠k+1 by omega)
 have p5:=bt (show k+2≠k by omega)
 have p6:=bt (show k+1≠k by omega)
 unfold Tr.wh at hokk ⊢
 rcases h1:T.is o with _ | _
 ·rw [h1] at hokk
  (repeat (first | refine SW.seq ?_ | refine SW.block ?_ | (have fx:=(And.intro (n1) (And.intro (n2) (And.intro (n3) (And.intro (n4) (And.intro (p1) (And.intro (p2) (And.intro (p3) (And.intro (p4) (And.intro (p5) (p6))))))))));refine SW.bJ [0,1,2,3,4] mixed ?_;(repeat (first | refine RW.ro fx (h:= ?_) | refine RW.skip (h:= ?_) | refine RW.op fx (h:= ?_) | refine RW.dw fx (h:= ?_) | refine RW.aW (h:= ?_) | (refine RW.aY (h:= ?_);(first | refine aj.mk fx (hc:=jO _ _ _) (h:= ?_)))));refine RW.nil ⟨by kernel_rfl,an.mk (h:= ?_)⟩) | refine SW.skip ?_ | refine SW.exit ?_ | refine SW.ret ?_ | refine SW.ak rfl ?_ | refine SW.ai rfl ?_))
  exact End.mk _ (h3:=fun _ _ h=>h) (h4:=⟨by simp only [Tr.fS,h1];rfl,rfl⟩) (h6:=hokk)
 ·rw [h1] at hokk
  rcases h2:decide ((T.by o).aQ=o.aQ) with _ | _
  ·(repeat (first | refine SW.seq ?_ | refine SW.block ?_ | (have fx:=(And.intro (n1) (And.intro (n2) (And.intro (n3) (And.intro (n4) (And.intro (p1) (And.intro (p2) (And.intro (p3) (And.intro (p4) (And.intro (p5) (And.intro (p6) (h2)))))))))));refine SW.bJ [0,1,2,3,4] mixed ?_;(repeat (first | refine RW.ro fx (h:= ?_) | refine RW.skip (h:= ?_) | refine RW.op fx (h:= ?_) | refine RW.dw fx (h:= ?_) | refine RW.aW (h:= ?_) | (refine RW.aY (h:= ?_);(first | refine aj.mk fx (hc:=jO _ _ _) (h:= ?_)))));refine RW.nil ⟨by kernel_rfl,an.mk (h:= ?_)⟩) | refine SW.skip ?_ | refine SW.exit ?_ | refine SW.ret ?_ | refine SW.ak rfl ?_ | refine SW.ai rfl ?_))
   exact End.mk _ (h3:=fun _ _ h=>h) (h4:=⟨by simp only [Tr.fS,h1,h2];rfl,rfl⟩) (h6:=hokk)
  ·have e1:(MM.get T.made o.aV).getD ag.zero=T.tW o:=rfl
   have e2:((MM.get T.made o.aV).getD ag.zero).cells=(T.tW o).cells:=rfl
   (repeat (first | refine SW.seq ?_ | refine SW.block ?_ | (have fx:=(And.intro (u1) (And.intro (u3) (And.intro (n1) (And.intro (n2) (And.intro (n3) (And.intro (n4) (And.intro (m1) (And.intro (m2) (And.intro (m3) (And.intro (m4) (And.intro (p1) (And.intro (p2) (And.intro (p3) (And.intro (p4) (And.intro (p5) (And.intro (p6) (And.intro (h2) (e2))))))))))))))))));refine SW.bJ [0,1,2,3,4] mixed ?_;(repeat (first | refine RW.ro fx (h:= ?_) | refine RW.skip (h:= ?_) | refine RW.op fx (h:= ?_) | refine RW.dw fx (h:= ?_) | refine RW.aW (h:= ?_) | (refine RW.aY (h:= ?_);(first | refine aj.mk fx (hc:=jO _ _ _) (h:= ?_)))));refine RW.nil ⟨by kernel_rfl,an.mk (h:= ?_)⟩) | refine SW.skip ?_ | refine SW.exit ?_ | refine SW.ret ?_ | refine SW.ak rfl ?_ | refine SW.ai rfl ?_))
   exact End.mk _ (h3:=fun _ _ h=>h) (h4:=⟨by simp only [Tr.fS,h1,h2];rfl,rfl⟩) (h6:=hokk)
end
abbrev iM (a:MM Dt Cr)(ca:Nat)(m:MM Dt ag)(cm:Nat):Tr:=⟨0,1,2,a,ca,m,cm⟩
abbrev fB (a:MM Dt Cr)(ca:Nat)(m:MM Dt ag)(cm:Nat):Hp:=[(0,.box 166 [.mp 1,.mp 2]),(1,.map (aq Dt.cells cv a) ca),(2,.map (aq Dt.cells ov m) cm)]
theorem oA (a:MM Dt Cr)(ca:Nat)(m:MM Dt ag)(cm:Nat):(iM a ca m cm).sep:=⟨by show (1:Nat)≠0;decide,by show (2:Nat)≠0;decide,by show (1:Nat)≠2;decide⟩
theorem pJ (a:MM Dt Cr)(ca:Nat)(m:MM Dt ag)(cm:Nat){k:Nat}(h:3≤k):(iM a ca m cm).lt k:=⟨by show 0<k;omega,by show 1<k;omega,by show 2<k;omega⟩
theorem cU (a:MM Dt Cr)(ca:Nat)(m:MM Dt ag)(cm:Nat){k:Nat}(h:3≤k):(fB a ca m cm).ok (fun n=>decide (n<k))=true:=Tr.ny (pJ a ca m cm h)
theorem kC (a:MM Dt Cr)(ca:Nat)(m:MM Dt ag)(cm:Nat){k:Nat}(h:3≤k):aG Tryz.prog tree_Tree_none.f [.ptr 0 0] (fB a ca m cm) k 0 (.d (.bool false)) (fB a ca m cm):=F6 (oA a ca m cm) (pJ a ca m cm h)
theorem C7 (a:MM Dt Cr)(ca:Nat)(m:MM Dt ag)(cm:Nat)(o:ag){n:Nat}(h:7≤n):
  aG Tryz.prog tree_Tree_Why_2.f [.ptr 6 0,.ptr 5 0,.ptr 4 0,.ptr 3 0] ((6,.box 4 [bl (MM.has a o.aV)])::(5,.box 158 ((MM.get a o.aV).getD Cr.zero).cells)::(4,.box 43 o.cells)::(3,.box 105 [.ptr 0 0])::fB a ca m cm) n 0 (bl ((iM a ca m cm).fS o))
   ((6,.box 4 [bl (MM.has a o.aV)])::(5,.box 158 ((MM.get a o.aV).getD Cr.zero).cells)::(4,.box 43 o.cells)::(3,.box 105 [.ptr 0 0])::fB a ca m cm):=F7 (T:=iM a ca m cm) (oA a ca m cm) o (k:=3) (pJ a ca m cm (Nat.le_refl 3)) (by omega)
section
attribute [local irreducible] SW RW aG SC aj an Tr.fS gh
def wq:List SV:=[.d (.int .i64 2),.fn (.func 166) [] [.ptr 4 0],.d (.int .i64 272),.fn (.func 167) [] [.ptr 6 0,.ptr 5 0,.ptr 4 0,.ptr 3 0],.d (.int .i64 273),.fn (.func 168) [] [.ptr 5 0,.ptr 4 0],.d (.int .i64 274),.fn (.func 169) [] [.ptr 5 0],.d (.int .i64 275),.fn (.func 170) [] [.ptr 4 0,.ptr 5 0]]
theorem C8:List.take 2 wq=[.d (.int .i64 2),.fn (.func 166) [] [.ptr 4 0]]:=rfl
theorem C9:List.take 2 (List.drop 2 wq)=[.d (.int .i64 272),.fn (.func 167) [] [.ptr 6 0,.ptr 5 0,.ptr 4 0,.ptr 3 0]]:=rfl
theorem C_:List.take 2 (List.drop 4 wq)=[.d (.int .i64 273),.fn (.func 168) [] [.ptr 5 0,.ptr 4 0]]:=rfl
theorem Da:List.take 2 (List.drop 6 wq)=[.d (.int .i64 274),.fn (.func 169) [] [.ptr 5 0]]:=rfl
theorem Db:List.take 2 (List.drop 8 wq)=[.d (.int .i64 275),.fn (.func 170) [] [.ptr 4 0,.ptr 5 0]]:=rfl
theorem fJ:∀ (x y a b:SV),cR [x,y] 0 [a,b]=[a,b]:=fun _ _ _ _=>rfl
@[simp] theorem Kp:wq.length=10:=rfl
theorem Kq:∀ (x0 x1 x2 x3 x4 x5 x6 x7 x8 x9 a0 b0 a1 b1 a2 b2 a3 b3 a4 b4:SV),cR (cR (cR (cR (cR ([x0,x1,x2,x3,x4,x5,x6,x7,x8,x9]) 0 [a0,b0]) 2 [a1,b1]) 4 [a2,b2]) 6 [a3,b3]) 8 [a4,b4]=[a0,b0,a1,b1,a2,b2,a3,b3,a4,b4]:=fun _ _ _ _ _ _ _ _ _ _ _ _ _ _ _ _ _ _ _ _=>rfl
set_option maxHeartbeats 4000000 in
theorem IS (a:MM Dt Cr)(ca:Nat)(m:MM Dt ag)(cm:Nat)(o:ag):SB Tryz.prog tree_Tree_Why.f [.ptr 0 0,.agg o.cells] (fB a ca m cm) 3 4 (fun r F'=>r=i64 ((iM a ca m cm).why o)∧F'=fB a ca m cm):=by
 refine tree_Tree_Why.enter (by simp [SV.av,SV.ok]) (cU a ca m cm (Nat.le_refl 3)) (by simp) ?_
 dsimp only [tree_Tree_Why.s,Co.M,Co.G,Co.J,Co.H,Co.N,Co.F,Co.C,Co.Z,Co.B,Co.b8,Co.ay,Co.bz,Co.i6,Co.z8,Co.bC]
 have hend:∀ n,7≤n→Hp.ok (fun m=>decide (m<3+4)) (fB a ca m cm)=true:=fun n _=>cU a ca m cm (by omega)
 refine SW.seq ?_
 (refine SW.bJ [0,1,2,3,4,5,6,8,10,31,32,33,37] mixed ?_;(repeat (first | refine RW.ro af (h:= ?_) | refine RW.skip (h:= ?_) | refine RW.op af (h:= ?_) | refine RW.dw af (h:= ?_) | refine RW.aW (h:= ?_) | (refine RW.aY (h:= ?_);(first | refine aj.mk af (hc:=kC a ca m cm (by omega)) (h:= ?_)))));refine RW.nil ⟨by kernel_rfl,an.mk (h:= ?_)⟩)
 refine SW.seq (SW.seq ?_)
 (refine SW.bJ [0,1,2,3,4,5,6,8,10,31,32,33,37] mixed ?_;(repeat (first | refine RW.ro af (h:= ?_) | refine RW.skip (h:= ?_) | refine RW.op af (h:= ?_) | refine RW.dw af (h:= ?_) | refine RW.aW (h:= ?_) | (refine RW.aY (h:= ?_);(first | refine aj.mk af (hc:=kC a ca m cm (by omega)) (h:= ?_)))));refine RW.nil ⟨by kernel_rfl,an.mk (h:= ?_)⟩)
 refine SW.ai rfl (SW.skip ?_)
 refine (?_:Sl.SW _ _ _ _ _ _)
 obtain ⟨c,hc⟩:∃ c,(MM.get a o.aV).getD Cr.zero=c:=⟨_,rfl⟩
 have q2:=C7 a ca m cm o (n:=8) (by omega)
 rw [hc] at q2
 refine SW.seq ?_
 refine SW.g0 [0,1,2,3,4,5,6,8,10,31,32,33,37] mixed (hc) ?_
 refine SW.seq (SW.seq ?_)
 have eR:[.d (.int .i64 2),.fn (.func 166) [] [.ptr 4 0],.d (.int .i64 272),.fn (.func 167) [] [.ptr 6 0,.ptr 5 0,.ptr 4 0,.ptr 3 0],.d (.int .i64 273),.fn (.func 168) [] [.ptr 5 0,.ptr 4 0],.d (.int .i64 274),.fn (.func 169) [] [.ptr 5 0],.d (.int .i64 275),.fn (.func 170) [] [.ptr 4 0,.ptr 5 0]]=wq:=rfl
 refine SW.g0 [0,1,2,3,4,5,6,8,10,31,32,33,37] mixed (And.intro (xR) (And.intro (Kq) (eR))) ?_
 refine SW.block ?_
 let H7:Hp:=(6,.box 4 [bl (MM.has a o.aV)])::(5,.box 158 c.cells)::(4,.box 43 o.cells)::(3,.box 105 [.ptr 0 0])::fB a ca m cm
 have hH:∀ n,7≤n→Hp.ok (fun m=>decide (m<n)) H7=true:=fun n hn=>au (by simp;omega) rfl (au (by simp;omega) (by simp [Ob.ok]) (au (by simp;omega) (by simp [Ob.ok]) (au (by simp;omega) (by simp [Ob.ok,SV.av,SV.ok];omega) (cU a ca m cm (by omega)))))
 have hR:SV.av (fun n=>decide (n<7)) wq=true:=rfl
 let W:Bool→Bool→Bool→Bool→Bool→Nat→Prop:=fun r1 r2 r3 r4 r5 i=>(1≤i→r1=false)∧(2≤i→r2=false)∧(3≤i→r3=false)∧(4≤i→r4=false)∧(5≤i→r5=false)
 have hw:(iM a ca m cm).why o=if o.kind≠1 then 2 else if (iM a ca m cm).fS o then 272 else if c.hold≠o.who then 273 else if bits .and .u8 (c.aN:Int) 1 == 0 then 274 else if gh o c then 275 else 0:=by
  unfold Tr.why Tr.by
  rw [show (iM a ca m cm).at_=a from rfl,hc]
 refine SW.loop (α:={i:Nat // i≤5∧W (decide (o.kind≠1)) ((iM a ca m cm).fS o) (decide (c.hold≠o.who)) (bits .and .u8 (c.aN:Int) 1 == 0) (gh o c) i}) (fun i=>⟨[(32,i64 i.1),(31,.agg wq)],(6,.box 4 [bl (MM.has a o.aV)])::(5,.box 158 c.cells)::(4,.box 43 o.cells)::(3,.box 105 [.ptr 0 0])::[(0,.box 166 [.mp 1,.mp 2]),(1,.map (aq Dt.cells cv a) ca),(2,.map (aq Dt.cells ov m) cm)],7⟩) (fun i=>5 - i.1) ⟨0,by omega,by simp [W]⟩ id ?_ ?_
 ·exact aK.same (by simp) (by simp [aP,List.lookup,SV.aB,SV.bZ,SV.ok,hR]) (hH 7 (by omega)) (aH (by simp [H7]))
 rintro ⟨i,hi,w1,w2,w3,w4,w5⟩
 have hdrop:∀ (x:Nat×Ob) (o2:Ob),x∈H7→lk ((7,o2)::H7) x.1=some x.2:=fun x o2 hx=>by
  have hl:=aH (h:=H7) (by simp [H7]) x hx
  rw [aa,if_neg ?_]
  ·exact hl
  ·intro e
   have:=(Hp.dJ (hH 7 (by omega)) hl).1
   simp at this
   omega
 have hsub:∀ o2:Ob,HSub (fB a ca m cm) ((7,o2)::H7):=fun o2 n ob hn=>by
  have h3:n<3:=by
   have:=(Hp.dJ (cU a ca m cm (Nat.le_refl 3)) hn).1
   simpa using this
  show lk ((7,o2)::(6,_)::(5,_)::(4,_)::(3,_)::fB a ca m cm) n=some ob
  rw [aa,if_neg (by omega),aa,if_neg (by omega),aa,if_neg (by omega),aa,if_neg (by omega),aa,if_neg (by omega)]
  exact hn
 have hsub7:HSub (fB a ca m cm) H7:=fun n ob hn=>by
  have h3:n<3:=by
   have:=(Hp.dJ (cU a ca m cm (Nat.le_refl 3)) hn).1
   simpa using this
  show lk ((6,_)::(5,_)::(4,_)::(3,_)::fB a ca m cm) n=some ob
  rw [aa,if_neg (by omega),aa,if_neg (by omega),aa,if_neg (by omega),aa,if_neg (by omega)]
  exact hn
 match i,hi,w1,w2,w3,w4,w5 with
 | 0,_,_,_,_,_,_=>
  rcases (Bool.eq_false_or_eq_true (decide (o.kind≠1))).symm with h0 | h0
  ·have con:=Ai o (b:=4) (k:=8) (by omega)
   rw [h0] at con
   (repeat (first | refine SW.seq ?_ | refine SW.block ?_ | refine SW.g1 [0,1,2,3,4,5,6,8,10,31,32,33,37] mixed (And.intro (C8) (fJ)) con ?_ | refine SW.skip ?_ | refine SW.exit ?_ | refine SW.ret ?_ | refine SW.ak rfl ?_ | refine SW.ai rfl ?_))
   refine ⟨⟨1,by omega,fun _=>h0,fun h=>absurd h (by omega),fun h=>absurd h (by omega),fun h=>absurd h (by omega),fun h=>absurd h (by omega)⟩,id,by dsimp only;omega,?_⟩
   exact aK.same (by simp) (by simp [aP,List.lookup,SV.aB,SV.bZ,SV.ok,hR]) (hH 7 (by omega)) (fun x hx=>hdrop x _ hx)
  ·have con:=Ai o (b:=4) (k:=8) (by omega)
   rw [h0] at con
   (repeat (first | refine SW.seq ?_ | refine SW.block ?_ | refine SW.g1 [0,1,2,3,4,5,6,8,10,31,32,33,37] mixed (And.intro (C8) (fJ)) con ?_ | refine SW.skip ?_ | refine SW.exit ?_ | refine SW.ret ?_ | refine SW.ak rfl ?_ | refine SW.ai rfl ?_))
   exact End.mk (fB a ca m cm) (h3:=hsub _) (h4:=⟨by rw [hw];rw [if_pos (by simpa using h0)];rfl,rfl⟩) (h6:=cU a ca m cm (by omega))
 | 1,_,w1,_,_,_,_=>
  have z1:=w1 (by omega)
  rcases (Bool.eq_false_or_eq_true ((iM a ca m cm).fS o)).symm with h0 | h0
  ·have con:=q2
   rw [h0] at con
   (repeat (first | refine SW.seq ?_ | refine SW.block ?_ | refine SW.g1 [0,1,2,3,4,5,6,8,10,31,32,33,37] mixed (And.intro (C9) (fJ)) con ?_ | refine SW.skip ?_ | refine SW.exit ?_ | refine SW.ret ?_ | refine SW.ak rfl ?_ | refine SW.ai rfl ?_))
   refine ⟨⟨2,by omega,fun _=>z1,fun _=>h0,fun h=>absurd h (by omega),fun h=>absurd h (by omega),fun h=>absurd h (by omega)⟩,id,by dsimp only;omega,?_⟩
   exact aK.same (by simp) (by simp [aP,List.lookup,SV.aB,SV.bZ,SV.ok,hR]) (hH 7 (by omega)) (fun x hx=>hdrop x _ hx)
  ·have con:=q2
   rw [h0] at con
   (repeat (first | refine SW.seq ?_ | refine SW.block ?_ | refine SW.g1 [0,1,2,3,4,5,6,8,10,31,32,33,37] mixed (And.intro (C9) (fJ)) con ?_ | refine SW.skip ?_ | refine SW.exit ?_ | refine SW.ret ?_ | refine SW.ak rfl ?_ | refine SW.ai rfl ?_))
   exact End.mk (fB a ca m cm) (h3:=hsub _) (h4:=⟨by rw [hw];rw [if_neg (by simpa using z1)];rw [if_pos (by simpa using h0)];rfl,rfl⟩) (h6:=cU a ca m cm (by omega))
 | 2,_,w1,w2,_,_,_=>
  have z1:=w1 (by omega)
  have z2:=w2 (by omega)
  rcases (Bool.eq_false_or_eq_true (decide (c.hold≠o.who))).symm with h0 | h0
  ·have con:=Aj c o (b:=5) (b2:=4) (k:=8) (by omega) (by omega) (by omega)
   rw [h0] at con
   (repeat (first | refine SW.seq ?_ | refine SW.block ?_ | refine SW.g1 [0,1,2,3,4,5,6,8,10,31,32,33,37] mixed (And.intro (C_) (fJ)) con ?_ | refine SW.skip ?_ | refine SW.exit ?_ | refine SW.ret ?_ | refine SW.ak rfl ?_ | refine SW.ai rfl ?_))
   refine ⟨⟨3,by omega,fun _=>z1,fun _=>z2,fun _=>h0,fun h=>absurd h (by omega),fun h=>absurd h (by omega)⟩,id,by dsimp only;omega,?_⟩
   exact aK.same (by simp) (by simp [aP,List.lookup,SV.aB,SV.bZ,SV.ok,hR]) (hH 7 (by omega)) (fun x hx=>hdrop x _ hx)
  ·have con:=Aj c o (b:=5) (b2:=4) (k:=8) (by omega) (by omega) (by omega)
   rw [h0] at con
   (repeat (first | refine SW.seq ?_ | refine SW.block ?_ | refine SW.g1 [0,1,2,3,4,5,6,8,10,31,32,33,37] mixed (And.intro (C_) (fJ)) con ?_ | refine SW.skip ?_ | refine SW.exit ?_ | refine SW.ret ?_ | refine SW.ak rfl ?_ | refine SW.ai rfl ?_))
   exact End.mk (fB a ca m cm) (h3:=hsub _) (h4:=⟨by rw [hw];rw [if_neg (by simpa using z1)];rw [if_neg (by simpa using z2)];rw [if_pos (by simpa using h0)];rfl,rfl⟩) (h6:=cU a ca m cm (by omega))
 | 3,_,w1,w2,w3,_,_=>
  have z1:=w1 (by omega)
  have z2:=w2 (by omega)
  have z3:=w3 (by omega)
  rcases (Bool.eq_false_or_eq_true ((bits .and .u8 (c.aN:Int) 1 == 0))).symm with h0 | h0
  ·have con:=Ak c (b:=5) (k:=8) (by omega)
   rw [h0] at con
   (repeat (first | refine SW.seq ?_ | refine SW.block ?_ | refine SW.g1 [0,1,2,3,4,5,6,8,10,31,32,33,37] mixed (And.intro (Da) (fJ)) con ?_ | refine SW.skip ?_ | refine SW.exit ?_ | refine SW.ret ?_ | refine SW.ak rfl ?_ | refine SW.ai rfl ?_))
   refine ⟨⟨4,by omega,fun _=>z1,fun _=>z2,fun _=>z3,fun _=>h0,fun h=>absurd h (by omega)⟩,id,by dsimp only;omega,?_⟩
   exact aK.same (by simp) (by simp [aP,List.lookup,SV.aB,SV.bZ,SV.ok,hR]) (hH 7 (by omega)) (fun x hx=>hdrop x _ hx)
  ·have con:=Ak c (b:=5) (k:=8) (by omega)
   rw [h0] at con
   (repeat (first | refine SW.seq ?_ | refine SW.block ?_ | refine SW.g1 [0,1,2,3,4,5,6,8,10,31,32,33,37] mixed (And.intro (Da) (fJ)) con ?_ | refine SW.skip ?_ | refine SW.exit ?_ | refine SW.ret ?_ | refine SW.ak rfl ?_ | refine SW.ai rfl ?_))
   exact End.mk (fB a ca m cm) (h3:=hsub _) (h4:=⟨by rw [hw];rw [if_neg (by simpa using z1)];rw [if_neg (by simpa using z2)];rw [if_neg (by simpa using z3)];rw [if_pos (by simpa using h0)];rfl,rfl⟩) (h6:=cU a ca m cm (by omega))
 | 4,_,w1,w2,w3,w4,_=>
  have z1:=w1 (by omega)
  have z2:=w2 (by omega)
  have z3:=w3 (by omega)
  have z4:=w4 (by omega)
  rcases (Bool.eq_false_or_eq_true (gh o c)).symm with h0 | h0
  ·have con:=Al c o (b:=5) (b2:=4) (k:=8) (by omega) (by omega) (by omega)
   rw [h0] at con
   (repeat (first | refine SW.seq ?_ | refine SW.block ?_ | refine SW.g1 [0,1,2,3,4,5,6,8,10,31,32,33,37] mixed (And.intro (Db) (fJ)) con ?_ | refine SW.skip ?_ | refine SW.exit ?_ | refine SW.ret ?_ | refine SW.ak rfl ?_ | refine SW.ai rfl ?_))
   refine ⟨⟨5,by omega,fun _=>z1,fun _=>z2,fun _=>z3,fun _=>z4,fun _=>h0⟩,id,by dsimp only;omega,?_⟩
   exact aK.same (by simp) (by simp [aP,List.lookup,SV.aB,SV.bZ,SV.ok,hR]) (hH 7 (by omega)) (fun x hx=>hdrop x _ hx)
  ·have con:=Al c o (b:=5) (b2:=4) (k:=8) (by omega) (by omega) (by omega)
   rw [h0] at con
   (repeat (first | refine SW.seq ?_ | refine SW.block ?_ | refine SW.g1 [0,1,2,3,4,5,6,8,10,31,32,33,37] mixed (And.intro (Db) (fJ)) con ?_ | refine SW.skip ?_ | refine SW.exit ?_ | refine SW.ret ?_ | refine SW.ak rfl ?_ | refine SW.ai rfl ?_))
   exact End.mk (fB a ca m cm) (h3:=hsub _) (h4:=⟨by rw [hw];rw [if_neg (by simpa using z1)];rw [if_neg (by simpa using z2)];rw [if_neg (by simpa using z3)];rw [if_neg (by simpa using z4)];rw [if_pos (by simpa using h0)];rfl,rfl⟩) (h6:=cU a ca m cm (by omega))
 | 5,_,w1,w2,w3,w4,w5=>
  have z1:=w1 (by omega)
  have z2:=w2 (by omega)
  have z3:=w3 (by omega)
  have z4:=w4 (by omega)
  have z5:=w5 (by omega)
  (repeat (first | refine SW.seq ?_ | refine SW.block ?_ | refine SW.g0 [0,1,2,3,4,5,6,8,10,31,32,33,37] mixed af ?_ | refine SW.skip ?_ | refine SW.exit ?_ | refine SW.ret ?_ | refine SW.ak rfl ?_ | refine SW.ai rfl ?_))
  exact End.mk (fB a ca m cm) (h3:=hsub7) (h4:=⟨by rw [hw];rw [if_neg (by simpa using z1)];rw [if_neg (by rw [z2];simp)];rw [if_neg (by simpa using z3)];rw [if_neg (by simpa using z4)];rw [if_neg (by simpa using z5)];rfl,rfl⟩) (h6:=cU a ca m cm (by omega))
end
end
section
theorem mR (T:Tr)(k:Nat):Hp.aB (fH [T.bx,T.ma,T.mm] k) (fB T.at_ T.ca T.made T.cm)=T.hp:=by
 simp only [Hp.aB,fB,List.map_cons,List.map_nil,Ob.aB,SV.aX,SV.aB,iB,cF,Tr.hp]
 rfl
theorem Tr.Kr {T:Tr}(h:T.sep):([T.bx,T.ma,T.mm]:List Nat).Nodup:=Tr.nd h
theorem rA (a:MM Dt Cr)(ca:Nat)(m:MM Dt ag)(cm:Nat):∀ i,i<3→lk (fB a ca m cm) i≠none:=fun i hi=>by
 rcases (show i=0∨i=1∨i=2 by omega) with rfl | rfl | rfl <;> simp [aa]
theorem Dc {T:Tr}(hs:T.sep)(o:ag)(k:Nat):aG Tryz.prog tree_Tree_Why.f [.ptr T.bx 0,.agg o.cells] T.hp k 4 (i64 (T.why o)) T.hp:=by
 have h:=SB.q_ [T.bx,T.ma,T.mm] (IS T.at_ T.ca T.made T.cm o) (Tr.Kr hs) (rA _ _ _ _) k
 rw [mR] at h
 simp only [SV.aX,SV.aB,ag.ax] at h
 exact h
section
attribute [local irreducible] SW RW aG SC aj an
theorem IT (a:MM Dt Cr)(ca:Nat)(m:MM Dt ag)(cm:Nat)(d:Dt):SB Tryz.prog tree_Tree_Get.f [.ptr 0 0,.agg d.cells] (fB a ca m cm) 3 3 (fun r F'=>r= .cN [.agg ((MM.get a d).getD Cr.zero).cells,i64 (if MM.has a d then 0 else 7)]∧F'=fB a ca m cm):=by
 refine tree_Tree_Get.enter (by simp [SV.av,SV.ok]) (cU a ca m cm (Nat.le_refl 3)) (by simp) ?_
 dsimp only [tree_Tree_Get.s,Co.M,Co.G,Co.J,Co.H,Co.N,Co.F,Co.C,Co.Z,Co.B,Co.b8,Co.ay,Co.bz,Co.i6,Co.z8,Co.bC]
 rcases hh:MM.has a d with _ | _
 ·(repeat (first | refine SW.seq ?_ | refine SW.block ?_ | (refine SW.bJ [0,1,3,4,5,6,7,9,21] mixed ?_;(repeat (first | refine RW.ro (hh) (h:= ?_) | refine RW.skip (h:= ?_) | refine RW.op (hh) (h:= ?_) | refine RW.dw (hh) (h:= ?_) | refine RW.aW (h:= ?_) | (refine RW.aY (h:= ?_);(first | refine aj.mk (hh) (hc:=kC a ca m cm (by omega)) (h:= ?_)))));refine RW.nil ⟨by kernel_rfl,an.mk (h:= ?_)⟩) | refine SW.skip ?_ | refine SW.exit ?_ | refine SW.ret ?_ | refine SW.ak rfl ?_ | refine SW.ai rfl ?_))
  have e:MM.get a d=none:=by simpa [MM.has] using hh
  rw [e]
  refine End.mk (fB a ca m cm) (h4:=⟨rfl,rfl⟩) (h6:=cU a ca m cm (by omega))
 ·(repeat (first | refine SW.seq ?_ | refine SW.block ?_ | (refine SW.bJ [0,1,3,4,5,6,7,9,21] mixed ?_;(repeat (first | refine RW.ro (hh) (h:= ?_) | refine RW.skip (h:= ?_) | refine RW.op (hh) (h:= ?_) | refine RW.dw (hh) (h:= ?_) | refine RW.aW (h:= ?_) | (refine RW.aY (h:= ?_);(first | refine aj.mk (hh) (hc:=kC a ca m cm (by omega)) (h:= ?_)))));refine RW.nil ⟨by kernel_rfl,an.mk (h:= ?_)⟩) | refine SW.skip ?_ | refine SW.exit ?_ | refine SW.ret ?_ | refine SW.ak rfl ?_ | refine SW.ai rfl ?_))
  refine End.mk (fB a ca m cm) (h4:=⟨rfl,rfl⟩) (h6:=cU a ca m cm (by omega))
theorem get_at {T:Tr}(hs:T.sep)(d:Dt)(k:Nat):aG Tryz.prog tree_Tree_Get.f [.ptr T.bx 0,.agg d.cells] T.hp k 3 (.cN [.agg ((MM.get T.at_ d).getD Cr.zero).cells,i64 (if MM.has T.at_ d then 0 else 7)]) T.hp:=by
 have h:=SB.q_ [T.bx,T.ma,T.mm] (IT T.at_ T.ca T.made T.cm d) (Tr.Kr hs) (rA _ _ _ _) k
 rw [mR] at h
 simp only [SV.aX,SV.aB,Dt.ax,Cr.ax] at h
 exact h
end
@[simp] theorem LP (d:Dt):(cR Cr.zero.cells 0 d.cells).length=11:=rfl
@[simp] theorem LQ (d e:Dt):(cR (cR Cr.zero.cells 0 d.cells) 2 e.cells).length=11:=rfl
@[simp] theorem LR (d e f:Dt):(cR (cR (cR Cr.zero.cells 0 d.cells) 2 e.cells) 4 f.cells).length=11:=rfl
def tX (o:ag):Cr:=⟨o.dot,o.dot,⟨0,0⟩,o.who,7,8,1099511627776,0⟩
def zm (T:Tr)(o:ag):Cr:=⟨o.dot,o.aQ,o.aV,o.to,o.aN,o.depth,o.cap,IntKind.i64.wrap ((T.by o).level+1)⟩
def Tr.bK (T:Tr)(o:ag):Bool:=(decide (o.kind=0) && !decide (o.aQ=o.dot)) || (decide (o.kind=1) && decide (T.why o≠0))
def Tr.nM (T:Tr)(o:ag):Cr:=if o.kind=1 then zm T o else tX o
def Tr.put (T:Tr)(o:ag):Tr×Bool:=if T.bK o then (T,false) else
 ({ T with at_:=MM.put T.at_ T.ca o.dot (T.nM o),ca:=MM.ja T.at_ T.ca o.dot,made:=MM.put T.made T.cm o.dot o,cm:=MM.ja T.made T.cm o.dot},true)
theorem lN (d:Dt)(who:Nat):cR (cR (cR (cR (cR (cR Cr.zero.cells 0 d.cells) 2 d.cells) 6 [.d (.int .u32 (who:Int))]) 7 [.d (.int .u8 7)]) 8 [.d (.int .u8 8)]) 9 [.d (.int .u64 1099511627776)]=(⟨d,d,⟨0,0⟩,who,7,8,1099511627776,0⟩:Cr).cells:=rfl
theorem pK (d e f:Dt)(a b c g:Nat)(l:Int):cR (cR (cR (cR (cR (cR (cR (cR Cr.zero.cells 0 d.cells) 2 e.cells) 4 f.cells) 6 [.d (.int .u32 (a:Int))]) 7 [.d (.int .u8 (b:Int))]) 8 [.d (.int .u8 (c:Int))]) 9 [.d (.int .u64 (g:Int))]) 10 [.d (.int .i64 l)]=(⟨d,e,f,a,b,c,g,l⟩:Cr).cells:=rfl
section
attribute [local irreducible] SW RW aG SC aj an Tr.why
set_option maxHeartbeats 4000000 in
theorem IU (a:MM Dt Cr)(ca:Nat)(m:MM Dt ag)(cm:Nat)(hw1:MM.wf a ca)(JO:MM.wf m cm)(o:ag):
  SB Tryz.prog tree_Tree_put.f [.ptr 0 0,.agg o.cells] (fB a ca m cm) 3 2 (fun r F'=>r=bl ((iM a ca m cm).put o).2∧F'=fB ((iM a ca m cm).put o).1.at_ ((iM a ca m cm).put o).1.ca ((iM a ca m cm).put o).1.made ((iM a ca m cm).put o).1.cm):=by
 refine tree_Tree_put.enter (by simp [SV.av,SV.ok]) (cU a ca m cm (Nat.le_refl 3)) (by simp) ?_
 dsimp only [tree_Tree_put.s,Co.M,Co.G,Co.J,Co.H,Co.N,Co.F,Co.C,Co.Z,Co.B,Co.b8,Co.ay,Co.bz,Co.i6,Co.z8,Co.bC]
 obtain ⟨W,hW⟩:∃ W,(iM a ca m cm).why o=W:=⟨_,rfl⟩
 have cw:aG Tryz.prog tree_Tree_Why.f [.ptr 0 0,.agg o.cells] (fB a ca m cm) 5 4 (i64 W) (fB a ca m cm):=by
  rw [← hW];exact Dc (oA a ca m cm) o 5
 refine SW.seq ?_
 (refine SW.bJ [0,1,3,4,5,13,35] mixed ?_;(repeat (first | refine RW.ro af (h:= ?_) | refine RW.skip (h:= ?_) | refine RW.op af (h:= ?_) | refine RW.dw af (h:= ?_) | refine RW.aW (h:= ?_) | (refine RW.aY (h:= ?_);(first | refine aj.mk af (hc:=kC a ca m cm (by omega)) (h:= ?_)))));refine RW.nil ⟨by kernel_rfl,an.mk (h:= ?_)⟩)
 refine SW.seq ?_
 (refine SW.bJ [0,1,3,4,5,13,35] mixed ?_;(repeat (first | refine RW.ro (lN) (h:= ?_) | refine RW.skip (h:= ?_) | refine RW.op (lN) (h:= ?_) | refine RW.dw (lN) (h:= ?_) | refine RW.aW (h:= ?_) | (refine RW.aY (h:= ?_);(first | refine aj.mk (lN) (hc:=kC a ca m cm (by omega)) (h:= ?_)))));refine RW.nil ⟨by kernel_rfl,an.mk (h:= ?_)⟩)
 refine SW.seq ?_
 have ok9:∀ (a':MM Dt Cr) ca' (m':MM Dt ag) cm',Hp.ok (fun x=>decide (x<3+2)) (fB a' ca' m' cm')=true:=fun a' ca' m' cm'=>cU a' ca' m' cm' (by omega)
 have hR:∀ v,(iM a ca m cm).bK o=v→((decide (o.kind=0) && !decide (o.aQ=o.dot)) || (decide (o.kind=1) && decide (W≠0)))=v:=fun v h=>by rw [← h];unfold Tr.bK;rw [hW]
 have k0:(((o.kind:Nat):Int) == 0)=decide (o.kind=0):=by rw [Bool.eq_iff_iff];simp only [beq_iff_eq,decide_eq_true_eq];omega
 have k1:(((o.kind:Nat):Int) == 1)=decide (o.kind=1):=by rw [Bool.eq_iff_iff];simp only [beq_iff_eq,decide_eq_true_eq];omega
 have kW:(((W:Nat):Int) != 0)=decide (W≠0):=by rw [Bool.eq_iff_iff];simp only [bne_iff_ne,decide_eq_true_eq];omega
 have fe1:=sH (vs:=cv) (kc:=Dt.cells) hw1 o.dot Cr.zero
 have fe2:=sH (vs:=ov) (kc:=Dt.cells) JO o.dot ag.zero
 have gb:=fun l=>pK o.dot o.aQ o.aV o.to o.aN o.depth o.cap l
 have ee:(MM.get a o.aV).getD Cr.zero=(iM a ca m cm).by o:=rfl
 -- it is refused
 have fin0:∀ env,(iM a ca m cm).bK o=true→(env:List (Nat×SV)).lookup 4=some (bl false)→∀ X:Hp,HSub (fB a ca m cm) X→∀ K,5≤K→Sl.Fin 3 2 tree_Tree_put.rv (fun r F'=>r=bl ((iM a ca m cm).put o).2∧F'=fB ((iM a ca m cm).put o).1.at_ ((iM a ca m cm).put o).1.ca ((iM a ca m cm).put o).1.made ((iM a ca m cm).put o).1.cm) ⟨env,X,K⟩:=fun env hr he X hX K hK=>by
  have e:(iM a ca m cm).put o=(iM a ca m cm,false):=by unfold Tr.put;rw [if_pos hr]
  rw [e]
  exact End.mk (ss:=[bl false]) (ob:=True) (fB a ca m cm) (h1:=by simp [tree_Tree_put.rv,AZ,he]) (h2:=trivial) (h3:=hX) (h4:=⟨rfl,rfl⟩) (h5:=rfl) (h6:=ok9 _ _ _ _) (h7:=by simpa using hK)
 rcases (Bool.eq_false_or_eq_true (decide (o.kind=0))).symm with d0 | d0
 ·rcases (Bool.eq_false_or_eq_true (decide (o.kind=1))).symm with d1 | d1
  ·skip
   have hr:(iM a ca m cm).bK o=false:=by unfold Tr.bK;rw [hW,d0,d1];rfl
   have e:(iM a ca m cm).put o=(({ iM a ca m cm with at_:=MM.put a ca o.dot (tX o),ca:=MM.ja a ca o.dot,made:=MM.put m cm o.dot o,cm:=MM.ja m cm o.dot}:Tr),true):=by
    unfold Tr.put Tr.nM;rw [if_neg (by rw [hr];simp),if_neg (by simpa using d1)]
   rw [e]
   (repeat (first | refine SW.seq ?_ | refine SW.block ?_ | refine SW.g1 [0,1,3,4,5,13,35] mixed (And.intro (k0) (And.intro (k1) (And.intro (kW) (And.intro (d0) (And.intro (d1) (And.intro (fe1) (fe2))))))) cw ?_ | refine SW.skip ?_ | refine SW.exit ?_ | refine SW.ret ?_ | refine SW.ak rfl ?_ | refine SW.ai rfl ?_))
   exact End.mk (fB _ _ _ _) (h4:=⟨rfl,rfl⟩) (h6:=ok9 _ _ _ _)
  ·rcases (Bool.eq_false_or_eq_true (decide (W≠0))).symm with dW | dW
   ·skip
    have hr:(iM a ca m cm).bK o=false:=by unfold Tr.bK;rw [hW,d0,d1,dW];rfl
    have e:(iM a ca m cm).put o=(({ iM a ca m cm with at_:=MM.put a ca o.dot (zm (iM a ca m cm) o),ca:=MM.ja a ca o.dot,made:=MM.put m cm o.dot o,cm:=MM.ja m cm o.dot}:Tr),true):=by
     unfold Tr.put Tr.nM;rw [if_neg (by rw [hr];simp),if_pos (by simpa using d1)]
    rw [e]
    (repeat (first | refine SW.seq ?_ | refine SW.block ?_ | refine SW.g1 [0,1,3,4,5,13,35] mixed (And.intro (k0) (And.intro (k1) (And.intro (kW) (And.intro (d0) (And.intro (d1) (And.intro (dW) (And.intro (gb) (And.intro (ee) (And.intro (fe1) (fe2)))))))))) cw ?_ | refine SW.skip ?_ | refine SW.exit ?_ | refine SW.ret ?_ | refine SW.ak rfl ?_ | refine SW.ai rfl ?_))
    exact End.mk (fB _ _ _ _) (h4:=⟨rfl,rfl⟩) (h6:=ok9 _ _ _ _)
   ·have hr:(iM a ca m cm).bK o=true:=by unfold Tr.bK;rw [hW,d0,d1,dW];rfl
    (repeat (first | refine SW.seq ?_ | refine SW.block ?_ | refine SW.g1 [0,1,3,4,5,13,35] mixed (And.intro (k0) (And.intro (k1) (And.intro (kW) (And.intro (d0) (And.intro (d1) (dW)))))) cw ?_ | refine SW.skip ?_ | refine SW.exit ?_ | refine SW.ret ?_ | refine SW.ak rfl ?_ | refine SW.ai rfl ?_))
    exact fin0 _ hr rfl _ (by repeat (first | exact HSub.nil _ | refine HSub.cons (by rfl) ?_)) _ (by simp)
 ·rcases (Bool.eq_false_or_eq_true (decide (o.aQ=o.dot))).symm with dc | dc
  ·have hr:(iM a ca m cm).bK o=true:=by unfold Tr.bK;rw [d0,dc];rfl
   (repeat (first | refine SW.seq ?_ | refine SW.block ?_ | refine SW.g1 [0,1,3,4,5,13,35] mixed (And.intro (k0) (And.intro (k1) (And.intro (kW) (And.intro (d0) (dc))))) cw ?_ | refine SW.skip ?_ | refine SW.exit ?_ | refine SW.ret ?_ | refine SW.ak rfl ?_ | refine SW.ai rfl ?_))
   exact fin0 _ hr rfl _ (by repeat (first | exact HSub.nil _ | refine HSub.cons (by rfl) ?_)) _ (by simp)
  ·have d1:decide (o.kind=1)=false:=by simp at d0 ⊢;omega
   have hr:(iM a ca m cm).bK o=false:=by unfold Tr.bK;rw [d0,d1,dc];rfl
   have e:(iM a ca m cm).put o=(({ iM a ca m cm with at_:=MM.put a ca o.dot (tX o),ca:=MM.ja a ca o.dot,made:=MM.put m cm o.dot o,cm:=MM.ja m cm o.dot}:Tr),true):=by
    unfold Tr.put Tr.nM;rw [if_neg (by rw [hr];simp),if_neg (by simpa using d1)]
   rw [e]
   (repeat (first | refine SW.seq ?_ | refine SW.block ?_ | refine SW.g1 [0,1,3,4,5,13,35] mixed (And.intro (k0) (And.intro (k1) (And.intro (kW) (And.intro (d0) (And.intro (d1) (And.intro (dc) (And.intro (fe1) (fe2)))))))) cw ?_ | refine SW.skip ?_ | refine SW.exit ?_ | refine SW.ret ?_ | refine SW.ak rfl ?_ | refine SW.ai rfl ?_))
   exact End.mk (fB _ _ _ _) (h4:=⟨rfl,rfl⟩) (h6:=ok9 _ _ _ _)
end
end
section
theorem Tr.put_eq (T:Tr)(o:ag):T.put o=({ T with at_:=((iM T.at_ T.ca T.made T.cm).put o).1.at_,ca:=((iM T.at_ T.ca T.made T.cm).put o).1.ca,made:=((iM T.at_ T.ca T.made T.cm).put o).1.made,cm:=((iM T.at_ T.ca T.made T.cm).put o).1.cm},((iM T.at_ T.ca T.made T.cm).put o).2):=by
 have e:T.bK o=(iM T.at_ T.ca T.made T.cm).bK o:=rfl
 have e2:T.nM o=(iM T.at_ T.ca T.made T.cm).nM o:=rfl
 unfold Tr.put
 rw [e]
 by_cases h:(iM T.at_ T.ca T.made T.cm).bK o=true
 ·rw [if_pos h,if_pos h]
 ·rw [if_neg h,if_neg h,e2]
theorem Tr.rB (T:Tr)(o:ag):(T.put o).1.bx=T.bx∧(T.put o).1.ma=T.ma∧(T.put o).1.mm=T.mm:=by rw [Tr.put_eq];exact ⟨rfl,rfl,rfl⟩
theorem IV {T:Tr}(hs:T.sep)(hw1:MM.wf T.at_ T.ca)(JO:MM.wf T.made T.cm)(o:ag)(k:Nat):aG Tryz.prog tree_Tree_put.f [.ptr T.bx 0,.agg o.cells] T.hp k 2 (bl (T.put o).2) (T.put o).1.hp:=by
 have h:=SB.q_ [T.bx,T.ma,T.mm] (IU T.at_ T.ca T.made T.cm hw1 JO o) (Tr.Kr hs) (rA _ _ _ _) k
 rw [mR] at h
 have h2:=mR (T.put o).1 k
 obtain ⟨n1,n2,n3⟩:=T.rB o
 rw [n1,n2,n3] at h2
 have e:=T.put_eq o
 simp only [SV.aX,SV.aB,ag.ax] at h
 rw [← h2]
 rw [e]
 exact h
theorem Tr.Dd {T:Tr}(hw1:MM.wf T.at_ T.ca)(JO:MM.wf T.made T.cm)(o:ag):MM.wf (T.put o).1.at_ (T.put o).1.ca∧MM.wf (T.put o).1.made (T.put o).1.cm:=by
 unfold Tr.put
 split
 ·exact ⟨hw1,JO⟩
 ·exact ⟨MM.jt hw1 _ _,MM.jt JO _ _⟩
structure lz (b a m:Nat) where
 T:Tr
 e1:T.bx=b
 e2:T.ma=a
 e3:T.mm=m
def lz.step {b a m:Nat}(s:lz b a m)(o:ag):lz b a m×Bool:=(⟨(s.T.put o).1,(s.T.rB o).1.trans s.e1,(s.T.rB o).2.1.trans s.e2,(s.T.rB o).2.2.trans s.e3⟩,(s.T.put o).2)
theorem F8 {b a m:Nat}(h1:a≠b)(h2:m≠b)(h3:a≠m)(B:Nat):
  vA Tryz.prog 123 [.ptr b 0] [] (fun s:lz b a m=>s.T.hp) lz.step 2 (fun _ s=>MM.wf s.T.at_ s.T.ca∧MM.wf s.T.made s.T.cm) (fun _=>True) B where
 nd s:=Tr.nd ⟨by rw [s.e1,s.e2];exact h1,by rw [s.e1,s.e3];exact h2,by rw [s.e2,s.e3];exact h3⟩
 nm s x:=by
  obtain ⟨n1,n2,n3⟩:=s.T.rB x
  show ((s.T.put x).1.hp).map (·.1)=s.T.hp.map (·.1)
  rw [Tr.names,Tr.names,n1,n2,n3]
 nx i s x hI _ _:=Tr.Dd hI.1 hI.2 x
 ok s x q h:=by
  obtain ⟨n1,n2,n3⟩:=s.T.rB x
  simp only [Hp.ok,List.all_eq_true,Bool.and_eq_true] at h
  have hm:∀ n,n∈s.T.hp.map (·.1)→q n=true:=fun n hn=>by
   obtain ⟨y,hy,rfl⟩:=List.mem_map.1 hn
   exact (h y hy).1
  rw [Tr.names] at hm
  exact Tr.Lo (by rw [show (s.step x).1.T.bx=s.T.bx from n1];exact hm _ (by simp)) (by rw [show (s.step x).1.T.ma=s.T.ma from n2];exact hm _ (by simp)) (by rw [show (s.step x).1.T.mm=s.T.mm from n3];exact hm _ (by simp))
 call i s x k hI _ _ _:=by
  have:=IV (T:=s.T) ⟨by rw [s.e1,s.e2];exact h1,by rw [s.e1,s.e3];exact h2,by rw [s.e2,s.e3];exact h3⟩ hI.1 hI.2 x k
  rw [s.e1] at this
  exact this
 a1 s q h:=by
  simp only [Hp.ok,List.all_eq_true,Bool.and_eq_true] at h
  have:=(h (s.T.bx,_) (gH s.T.HO)).1
  rw [s.e1] at this
  exact ⟨by simp only [SV.av,SV.ok,Bool.and_true];exact this,rfl⟩
structure On where
 L:MM Dt Int
 c:Nat
def On.hp (b m:Nat)(s:On):Hp:=[(b,.box 114 [.mp m]),(m,.map (aq Dt.cells iv s.L) s.c)]
def On.cnt (s:On)(d:Dt):Int:=(MM.get s.L d).getD 0
def On.step (s:On)(o:ag):On×Bool:=(⟨MM.put s.L s.c o.dot (s.cnt o.dot+1),MM.ja s.L s.c o.dot⟩,decide (s.cnt o.dot+1>1) || decide (o.kind>1))
section
attribute [local irreducible] SW RW aG SC aj an
set_option maxHeartbeats 1000000 in
theorem F9 (s:On)(hw:MM.wf s.L s.c)(o:ag)(hb:0≤s.cnt o.dot∧s.cnt o.dot<1000000000):SB Tryz.prog tree_New_1.f [.agg o.cells,.ptr 0 0] [(0,.box 114 [.mp 1]),(1,.map (aq Dt.cells iv s.L) s.c)] 2 1
  (fun r F'=>r=bl (s.step o).2∧F'=[(0,.box 114 [.mp 1]),(1,.map (aq Dt.cells iv (s.step o).1.L) (s.step o).1.c)]):=by
 refine tree_New_1.enter (by simp [SV.av,SV.ok]) (by simp [Hp.ok,Ob.ok,SV.av,SV.ok,bQ]) (by simp) ?_
 dsimp only [tree_New_1.s,Co.M,Co.G,Co.J,Co.H,Co.N,Co.F,Co.C,Co.Z,Co.B,Co.b8,Co.ay,Co.bz,Co.i6,Co.z8,Co.bC]
 have fe:=sH (vs:=iv) (kc:=Dt.cells) hw o.dot 0
 have e0:(MM.get s.L o.dot).getD 0=s.cnt o.dot:=rfl
 have e1:IntKind.i64.wrap (s.cnt o.dot+1)=s.cnt o.dot+1:=wrap_i64 _ (by omega)
 have e2:(MM.get (MM.put s.L s.c o.dot (s.cnt o.dot+1)) o.dot).getD 0=s.cnt o.dot+1:=by rw [MM.fI,if_pos rfl];rfl
 have e3:decide ((o.kind:Int)>1)=decide (o.kind>1):=by rw [Bool.eq_iff_iff];simp only [decide_eq_true_eq];omega
 refine SW.seq ?_
 refine SW.g0 [0,1,2,3] mixed af ?_
 refine SW.cut (stM:=⟨[(2,.ptr 2 0),(1,.ptr 0 0)],[(2,.box 43 o.cells),(0,.box 114 [.mp 1]),(1,.map (aq Dt.cells iv (s.step o).1.L) (s.step o).1.c)],3⟩) id (SW.tree mixed ?_) ?_
 ·have e3':(MM.get (MM.vV s.L s.c o.dot 0) o.dot).getD 0=s.cnt o.dot:=by
   unfold MM.vV On.cnt
   cases hh:MM.idx s.L o.dot with
   | none=>
    have h1:=MM.j4.1 hh
    have h2:s.L.find? (fun x=>decide (o.dot=x.2.1))=none:=by
     unfold MM.get at h1
     simpa using h1
    rw [h1]
    simp [MM.get,List.find?_append,h2]
   | some i=>rfl
  repeat' (first
   | refine vv.s1 _ (h1:= ?_)
   | refine vv.s2 _ _ (h1:= ?_) (h2:= ?_)
   | refine vv.s3 _ _ _ (h1:= ?_) (h2:= ?_) (h3:= ?_)
   | refine Oa.mk (And.intro fe (And.intro e0 (And.intro e1 e3'))) (h:= ?_))
  all_goals (refine vv.done (by kernel_rfl) (aK.same (by simp) (by simp [aP,List.lookup,SV.aB,SV.ok]) (by simp [Hp.ok,Ob.ok,SV.av,SV.ok,bQ]) (fun x hx=> ?_)))
  all_goals (simp only [List.mem_cons,List.not_mem_nil,or_false] at hx;rcases hx with rfl | rfl | rfl <;> rfl)
 have hE:∀ b,(s.step o).2=b→∀ env:List (Nat×SV),env.lookup 3=some (bl b)→Sl.Fin 2 1 tree_New_1.rv (fun r F'=>r=bl (s.step o).2∧F'=[(0,.box 114 [.mp 1]),(1,.map (aq Dt.cells iv (s.step o).1.L) (s.step o).1.c)]) ⟨env,[(2,.box 43 o.cells),(0,.box 114 [.mp 1]),(1,.map (aq Dt.cells iv (s.step o).1.L) (s.step o).1.c)],3⟩:=fun b hb env he=>
  End.mk (ss:=[bl b]) (ob:=True) [(0,.box 114 [.mp 1]),(1,.map (aq Dt.cells iv (s.step o).1.L) (s.step o).1.c)] (h1:=by simp [tree_New_1.rv,AZ,he]) (h2:=trivial) (h3:=by repeat (first | exact HSub.nil _ | refine HSub.cons (by rfl) ?_)) (h4:=⟨by rw [hb];rfl,rfl⟩) (h5:=rfl) (h6:=by simp [Hp.ok,Ob.ok,SV.av,SV.ok,bQ])
 have e5:(MM.get (s.step o).1.L o.dot).getD 0=s.cnt o.dot+1:=e2
 rcases (Bool.eq_false_or_eq_true (decide (s.cnt o.dot+1>1))).symm with h1 | h1
 ·have er:(s.step o).2=decide (o.kind>1):=by unfold On.step;rw [h1];rfl
  (repeat (first | refine SW.seq ?_ | refine SW.block ?_ | refine SW.g0 [0,1,2,3] mixed (And.intro (e5) (And.intro (e3) (h1))) ?_ | refine SW.skip ?_ | refine SW.exit ?_ | refine SW.ret ?_ | refine SW.ak rfl ?_ | refine SW.ai rfl ?_))
  exact hE _ er _ rfl
 ·have er:(s.step o).2=true:=by unfold On.step;rw [h1];rfl
  (repeat (first | refine SW.seq ?_ | refine SW.block ?_ | refine SW.g0 [0,1,2,3] mixed (And.intro (e5) (And.intro (e3) (h1))) ?_ | refine SW.skip ?_ | refine SW.exit ?_ | refine SW.ret ?_ | refine SW.ak rfl ?_ | refine SW.ai rfl ?_))
  exact hE _ er _ rfl
end
theorem On.names (b m:Nat)(s:On):(s.hp b m).map (·.1)=[b,m]:=rfl
theorem F_ {b m:Nat}(h1:m≠b)(s:On)(hw:MM.wf s.L s.c)(o:ag)(hb:0≤s.cnt o.dot∧s.cnt o.dot<1000000000)(k:Nat):aG Tryz.prog tree_New_1.f [.agg o.cells,.ptr b 0] (s.hp b m) k 1 (bl (s.step o).2) ((s.step o).1.hp b m):=by
 have h:=SB.q_ [b,m] (F9 s hw o hb) (by simp;exact Ne.symm h1) (fun i hi=>by
  rcases (show i=0∨i=1 by simp at hi;omega) with rfl | rfl <;> simp [aa]) k
 simp only [SV.aX,SV.aB,ag.ax,Hp.aB,List.map_cons,List.map_nil,Ob.aB,eL] at h
 exact h
theorem De {b m:Nat}(h1:m≠b):
  vA Tryz.prog 122 [] [.ptr b 0] (On.hp b m) On.step 1 (fun i s=>MM.wf s.L s.c∧∀ d,0≤s.cnt d∧s.cnt d≤(i:Int)) (fun _=>True) 1000000000 where
 nd s:=by rw [On.names];simp;exact Ne.symm h1
 nm s x:=rfl
 nx i s x hI _ hi:=by
  refine ⟨MM.jt hI.1 _ _,fun d=> ?_⟩
  have hx:=hI.2 x.dot
  show 0≤(MM.get (MM.put s.L s.c x.dot (s.cnt x.dot+1)) d).getD 0∧(MM.get (MM.put s.L s.c x.dot (s.cnt x.dot+1)) d).getD 0≤((i+1:Nat):Int)
  rw [MM.fI]
  split
  ·simp only [Option.getD_some];omega
  ·have:=hI.2 d
   unfold On.cnt at this
   omega
 ok s x q h:=by
  simp only [Hp.ok,On.hp,List.all_cons,List.all_nil,Ob.ok,SV.av,SV.ok,bQ,Bool.and_true] at h ⊢
  exact h
 call i s x k hI _ hi _:=F_ h1 s hI.1 x (by have:=hI.2 x.dot;omega) k
 a1 s q h:=by
  simp only [Hp.ok,On.hp,List.all_cons,List.all_nil,Ob.ok,SV.av,SV.ok,bQ,Bool.and_true,Bool.and_eq_true] at h ⊢
  exact ⟨trivial,h.1.1⟩
end
section
abbrev TS:=lz 2 0 1
def IW:TS:=⟨⟨2,0,1,[],0,[],0⟩,rfl,rfl,rfl⟩
def grow:Nat→TS→List ag→TS
 | 0,s,W=>s
 | f+1,s,W=>if (bG lz.step s W).1.length<W.length then grow f (bG lz.step s W).2 (bG lz.step s W).1 else (bG lz.step s W).2
theorem vB:∀ (f g:Nat) (s:TS) (W:List ag),W.length<f→W.length<g→grow f s W=grow g s W
 | 0,g,s,W,h,_=>by omega
 | f+1,0,s,W,_,h=>by omega
 | f+1,g+1,s,W,h1,h2=>by
  simp only [grow]
  split
  ·exact vB f g _ _ (by omega) (by omega)
  ·rfl
theorem Bd {s:TS}{W:List ag}(h:(bG lz.step s W).1.length<W.length):grow (W.length+1) s W=grow ((bG lz.step s W).1.length+1) (bG lz.step s W).2 (bG lz.step s W).1:=by
 rw [show grow (W.length+1) s W=grow W.length (bG lz.step s W).2 (bG lz.step s W).1 by simp only [grow];rw [if_pos h]]
 exact vB _ _ _ _ h (Nat.lt_succ_self _)
theorem Df {s:TS}{W:List ag}(h: ¬ (bG lz.step s W).1.length<W.length):grow (W.length+1) s W=(bG lz.step s W).2:=by
 simp only [grow];rw [if_neg h]
def firsts (l:List ag):List ag:=(bG On.step ⟨[],0⟩ l).1
def aA (l:List ag):Tr:=(grow ((firsts l).length+1) IW (firsts l)).T
theorem lz.sep (s:lz 2 0 1):s.T.sep:=⟨by rw [s.e1,s.e2];decide,by rw [s.e1,s.e3];decide,by rw [s.e2,s.e3];decide⟩
theorem lz.lt (s:lz 2 0 1){k:Nat}(h:3≤k):s.T.lt k:=⟨by rw [s.e1];omega,by rw [s.e2];omega,by rw [s.e3];omega⟩
def lz.wf (s:lz 2 0 1):Prop:=MM.wf s.T.at_ s.T.ca∧MM.wf s.T.made s.T.cm
theorem IX:IW.wf:=⟨MM.k_,MM.k_⟩
theorem Am:∀ (W:List ag) (s:TS),s.wf→(bG lz.step s W).2.wf
 | [],s,h=>h
 | x::W,s,h=>Am W _ (Tr.Dd h.1 h.2 x)
theorem IY:IW.T.hp=[(2,.box 166 [.mp 0,.mp 1]),(0,.map [] 0),(1,.map [] 0)]:=rfl
section
attribute [local irreducible] SW RW aG SC aj an Tr.hp
set_option maxHeartbeats 4000000 in
theorem IZ (l:List ag)(hl:l.length<1000000000):SB Tryz.prog tree_New.f [ops l] [] 0 7 (fun r F'=>r= .ptr 2 0∧F'=(aA l).hp):=by
 refine tree_New.enter (by first | rfl | simp [SV.ok,SV.av]) (by first | rfl | simp [Hp.ok,Ob.ok,SV.ok,SV.av,aJ.ah]) (by simp) ?_
 dsimp only [tree_New.s,Co.M,Co.G,Co.J,Co.H,Co.N,Co.F,Co.C,Co.Z,Co.B,Co.b8,Co.ay,Co.bz,Co.i6,Co.z8,Co.bC]
 have spl1:∀ (x y:SV),cR [x] 0 [y]=[y]:=fun _ _=>rfl
 have splm:∀ (x y a b:SV),cR (cR [x,y] 0 [a]) 1 [b]=[a,b]:=fun _ _ _ _=>rfl
 refine SW.seq ?_
 refine SW.g0 [0,2,3,4,5,6,7,17] mixed af ?_
 refine SW.seq ?_
 refine SW.g0 [0,2,3,4,5,6,7,17] mixed (splm) ?_
 refine SW.seq ?_
 refine SW.g0 [0,2,3,4,5,6,7,17] mixed (spl1) ?_
 have ho:(On.hp 4 3 ⟨[],0⟩)=[(4,.box 114 [.mp 3]),(3,.map [] 0)]:=rfl
 have h0:lg (On.hp 4 3) 6 7 ⟨[],0⟩ ⟨[],0⟩:=⟨rfl,by decide,by rw [ho];rfl⟩
 have cD:=tV (De (b:=4) (m:=3) (by omega)) l ⟨[],0⟩ hl (Nat.le_of_lt hl) (fun _ _=>trivial) ⟨MM.k_,fun d=>by simp [On.cnt,MM.get]⟩ 6 7 (by omega) h0 (by decide)
 obtain ⟨s1,hs1⟩:∃ s1,(bG On.step ⟨[],0⟩ l).2=s1:=⟨_,rfl⟩
 have hf:(bG On.step ⟨[],0⟩ l).1=firsts l:=rfl
 rw [hs1,hf] at cD
 have cD:aG Tryz.prog slices_DeleteFunc_Lapi_Op_api_Op.f [.gs 6 l.length,.fn (.func 122) [] [.ptr 4 0]] [(6,.arr 43 29 l.length (jb l)),(4,.box 114 [.mp 3]),(3,.map [] 0)] 7 (l.length*1+l.length*(1+1)) (.gs 6 (firsts l).length)
   [(6,.arr 43 29 (firsts l).length (jb (firsts l))),(4,.box 114 [.mp 3]),(3,.map (aq Dt.cells iv s1.L) s1.c)]:=cD
 refine SW.seq ?_
 refine SW.g2 [0,2,3,4,5,6,7,17] mixed af (CX l hl 5) cD ?_
 obtain ⟨K,hK,hK7⟩:∃ K,7+(l.length*1+l.length*(1+1))=K∧7≤K:=⟨_,rfl,by omega⟩
 rw [hK]
 have hlen:(firsts l).length≤l.length:=oz On.step l ⟨[],0⟩
 refine SW.weak id (st1:=⟨[(3,.ptr 2 0),(5,.gs 6 (firsts l).length)],(6,.arr 43 29 (firsts l).length (jb (firsts l)))::IW.T.hp,K⟩) (aK.same (by simp) (by simp [aP,List.lookup,SV.aB,SV.ok];omega) (au (by simp;omega) (SV.bk _) (Tr.ny (IW.lt (by show 3≤K;omega)))) (fun x hx=> ?_)) ?_
 ·rcases List.mem_cons.1 hx with rfl | hx
  ·rfl
  ·rw [IY] at hx
   simp only [List.mem_cons,List.not_mem_nil,or_false] at hx
   rcases hx with rfl | rfl | rfl <;> rfl
 refine SW.seq (SW.seq ?_)
 refine SW.g0 [0,2,3,4,5,6,7,17] mixed af ?_
 refine SW.block ?_
 let Inv:Bool→List ag→TS→Prop:=fun b W s=>W.length≤l.length∧s.wf∧(if b then grow (W.length+1) s W else s).T=aA l
 have hok:∀ (W:List ag) (s:TS) (k:Nat),7≤k→Hp.ok (fun n=>decide (n<k)) ((6,.arr 43 29 W.length (jb W))::s.T.hp)=true:=fun W s k hk=>au (by simp;omega) (SV.bk _) (Tr.ny (s.lt (by omega)))
 have h6:∀ s:TS,lk s.T.hp 6=none:=fun s=>Tr.MB (s.lt (Nat.le_refl 3)) (by omega)
 have ni:∀ (W:List ag) (s:TS),(((6,Ob.arr 43 29 W.length (jb W))::s.T.hp:Hp).map (·.1)).Nodup:=fun W s=>v8 (h6 s) (Tr.nd s.sep)
 refine SW.loop (α:={x:Bool×List ag×TS×Nat // Inv x.1 x.2.1 x.2.2.1∧7≤x.2.2.2}) (fun x=>⟨[(6,bl x.1.1),(3,.ptr 2 0),(5,.gs 6 x.1.2.1.length)],(6,.arr 43 29 x.1.2.1.length (jb x.1.2.1))::x.1.2.2.1.T.hp,x.1.2.2.2⟩) (fun x=>2*x.1.2.1.length+(if x.1.1 then 1 else 0))
  ⟨(true,firsts l,IW,K),⟨hlen,IX,rfl⟩,hK7⟩ id ?_ ?_
 ·exact aK.same (by simp) (by simp [aP,List.lookup,SV.aB,SV.ok];omega) (hok _ _ _ hK7) (aH (ni _ _))
 rintro ⟨⟨b,W,s,k⟩,⟨hW,hwf,hfin⟩,hk7⟩
 dsimp only at hW hwf hfin hk7 ⊢
 cases b with
 | false=>
  refine SW.seq (SW.seq ?_)
  refine SW.g0 [0,2,3,4,5,6,7,17] mixed af ?_
  refine SW.ai rfl (SW.exit ?_)
  refine (?_:Sl.SW _ _ _ _ _ _)
  refine SW.seq ?_
  refine SW.g0 [0,2,3,4,5,6,7,17] mixed af ?_
  refine SW.ret ?_
  have hfin:s.T=aA l:=hfin
  rw [← hfin]
  exact End.mk s.T.hp (h3:=ql (h6 s) fun _ _ h=>h) (h4:=⟨rfl,rfl⟩) (h6:=Tr.ny (s.lt (by omega))) (h7:=by simpa using hk7)
 | true=>
  have hfin:(grow (W.length+1) s W).T=aA l:=hfin
  have hH:lg (fun s:TS=>s.T.hp) 6 k s s:=⟨rfl,Tr.ny (s.lt (by omega)),h6 s⟩
  have cP:=tV (F8 (b:=2) (a:=0) (m:=1) (by omega) (by omega) (by omega) 1000000000) W s (by omega) (by omega) (fun _ _=>trivial) hwf 6 k (by omega) hH (Tr.cl s.sep)
  have hwf':=Am W s hwf
  have hkl:=oz lz.step W s
  have hmore:=Bd (s:=s) (W:=W)
  have hend:=Df (s:=s) (W:=W)
  obtain ⟨W',hW'⟩:∃ W',(bG lz.step s W).1=W':=⟨_,rfl⟩
  obtain ⟨s',hs'⟩:∃ s',(bG lz.step s W).2=s':=⟨_,rfl⟩
  rw [hW',hs'] at cP hmore hend
  rw [hW'] at hkl
  rw [hs'] at hwf'
  have hm:cZ (c_ ((6,Ob.arr 43 29 W.length (jb W))::s.T.hp) ((6,Ob.arr 43 29 W'.length (jb W'))::s'.T.hp) s.T.hp) s'.T.hp=(6,Ob.arr 43 29 W.length (jb W))::s'.T.hp:=
   vu (by rw [Tr.names,Tr.names,s.e1,s.e2,s.e3,s'.e1,s'.e2,s'.e3]) (ni W s)
  refine SW.seq (SW.seq ?_)
  refine SW.g0 [0,2,3,4,5,6,7,17] mixed af ?_
  refine SW.ak rfl (SW.skip ?_)
  refine (?_:Sl.SW _ _ _ _ _ _)
  refine SW.block (SW.seq ?_)
  refine SW.g0 [0,2,3,4,5,6,7,17] mixed af ?_
  refine SW.seq ?_
  (refine SW.bJ [0,2,3,4,5,6,7,17] mixed ?_;(repeat (first | refine RW.ro (hm) (h:= ?_) | refine RW.skip (h:= ?_) | refine RW.op (hm) (h:= ?_) | refine RW.dw (hm) (h:= ?_) | refine RW.aW (h:= ?_) | (refine RW.aY (h:= ?_);(first | refine aj.mk (hm) (hs:=(fun _ _ h=>h)) (hc:=cP) (h:= ?_)))));refine RW.nil ⟨by kernel_rfl,an.mk (h:= ?_)⟩)
  have e1:decide ((W'.length:Int)<(W.length:Int))=decide (W'.length<W.length):=by rw [Bool.eq_iff_iff];simp only [decide_eq_true_eq];omega
  refine SW.g0 [0,2,3,4,5,6,7,17] mixed (e1) ?_
  refine ⟨⟨(decide (W'.length<W.length),W',s',k+(W.length*2+W.length*(2+1))),⟨by show W'.length≤l.length;omega,hwf',?_⟩,by show 7≤k+_;omega⟩,id,?_,aK.same (by simp) (by simp [aP,List.lookup,SV.aB,SV.ok];omega) (hok W' s' _ (by show 7≤k+_;omega)) (aH (ni W' s'))⟩
  ·rw [← hfin]
   by_cases h:W'.length<W.length
   ·rw [decide_eq_true h,hmore h];rfl
   ·rw [decide_eq_false h,hend h];rfl
  ·show 2*W'.length+(if decide (W'.length<W.length)=true then 1 else 0)<2*W.length+(if true=true then 1 else 0)
   by_cases h:W'.length<W.length
   ·simp [h] <;> omega
   ·simp [h] <;> omega
end
def Tr.sh (T:Tr)(k:Nat):Tr:={ T with bx:=k+T.bx,ma:=k+T.ma,mm:=k+T.mm}
theorem Tr.Ks (T:Tr)(k:Nat):T.hp.aB (fH [] k)=(T.sh k).hp:=by
 simp only [Tr.hp,Hp.aB,List.map_cons,List.map_nil,Ob.aB,SV.aX,SV.aB,iB,cF,Tr.sh,fH,List.getElem?_nil,List.length_nil,Nat.sub_zero,Nat.add_comm]
def iY (l:List ag)(k:Nat):Tr:=(aA l).sh k
theorem I1 (l:List ag)(hl:l.length<1000000000)(k:Nat):aG Tryz.prog tree_New.f [ops l] [] k 7 (.ptr (iY l k).bx 0) (iY l k).hp:=by
 have h:=SB.new (IZ l hl) k
 rw [Tr.Ks] at h
 have e:(aA l).bx=2:=(grow ((firsts l).length+1) IW (firsts l)).e1
 have e2:(iY l k).bx=k+2:=by show k+(aA l).bx=_;rw [e]
 rw [e2]
 simp only [SV.aB,fH,List.getElem?_nil,List.length_nil,Nat.sub_zero] at h
 rw [Nat.add_comm k 2]
 exact h
end
section
def dG (o:ag)(c:Cr):Bool:=((!iC o.aN c.aN || ((o.to:Int) == 0)) || decide ((o.depth:Int)≥c.depth)) || decide ((o.cap:Int)>c.cap)
def kR (l:List ag)(g:Cr×Bool)(o:ag):Bool:=(!g.2 || !decide (g.1.aQ=o.aQ)) || !((aT l o.aV).getD ag.zero).before o
def ew (l:List ag)(g:Cr×Bool)(o:ag):Cr×Nat:=
 if o.kind≠1 then (Cr.zero,2) else (g.1,if kR l g o then 272 else if g.1.hold≠o.who then 273 else if hasB g.1.aN 1=false then 274 else if dG o g.1 then 275 else 0)
def cg (l:List ag):Nat→Dt→Cr×Bool
 | 0,_=>(Cr.zero,false)
 | m +1,d=>match aT l d with
  | none=>(Cr.zero,false)
  | some o=>if o.kind=0 then (⟨d,d,⟨0,0⟩,o.who,7,8,1099511627776,0⟩,decide (o.aQ=d)) else
   if (ew l (cg l m o.aV) o).2≠0 then (Cr.zero,false) else (⟨d,o.aQ,o.aV,o.to,o.aN,o.depth,o.cap,IntKind.i64.wrap ((ew l (cg l m o.aV) o).1.level+1)⟩,true)
theorem zn {l:List ag}(hl:∀ x,x∈l→x.aN<256)(m:Nat)(d:Dt):(cg l m d).1.aN<256:=by
 cases m with
 | zero=>show (0:Nat)<256;omega
 | succ m=>
  simp only [cg]
  split
  ·show (0:Nat)<256;omega
  ·rename_i o ho
   split
   ·show (7:Nat)<256;omega
   ·split
    ·show (0:Nat)<256;omega
    ·exact hl o (List.mem_of_find?_eq_some ho)
section
attribute [local irreducible] SW RW aG SC aj an cg
variable {l:List ag} (hlen:l.length<4611686018427387904) (hl:∀ x,x∈l→x.aN<256)
include hlen hl
set_option maxHeartbeats 4000000 in
theorem An (m : Nat)(hm:m<1000)(o:ag)(ho:o.aN<256)(hg:∀ d k,aG Tryz.prog ref16_get.f [ops l,.agg d.cells,i64 m] [] k 0 (.cN [.agg (cg l m d).1.cells,bl (cg l m d).2]) []):
    Go.Sl.Pure Tryz.prog ref16_why.f [ops l,.agg o.cells,i64 ((m+1:Nat):Int)] (.cN [.agg (ew l (cg l m o.aV) o).1.cells,i64 (ew l (cg l m o.aV) o).2]):=by
  refine ref16_why.enter (by first | rfl | simp [SV.ok,SV.av]) (by first | rfl | simp [Hp.ok,Ob.ok,SV.ok,SV.av,aJ.ah]) (by simp) ?_
  dsimp only [ref16_why.s,Co.M,Co.G,Co.J,Co.H,Co.N,Co.F,Co.C,Co.Z,Co.B,Co.b8,Co.ay,Co.bz,Co.i6,Co.z8,Co.bC]
  have hgr:=zn hl m o.aV
  have hgc:=hg o.aV
  obtain ⟨g,hgd⟩:∃ g,cg l m o.aV=g:=⟨_,rfl⟩
  rw [hgd] at hgr hgc ⊢
  have em:IntKind.i64.wrap (((m+1:Nat):Int) - 1)=(m:Int):=by rw [wrap_i64 _ (by omega)];omega
  have k1:(((o.kind:Nat):Int) != 1)=decide (o.kind≠1):=by rw [Bool.eq_iff_iff];simp only [bne_iff_ne,decide_eq_true_eq];omega
  obtain ⟨mk,hmk⟩:∃ mk,(aT l o.aV).getD ag.zero=mk:=⟨_,rfl⟩
  have hfd:∀ k,aG Tryz.prog ref10_Find.f [ops l,.agg o.aV.cells] [] k 0 (.cN [.agg mk.cells,bl (aT l o.aV).isSome]) []:=fun k=>by rw [← hmk];exact oy l hlen o.aV k
  have hw:ew l g o=if o.kind≠1 then (Cr.zero,2) else (g.1,if (!g.2 || !decide (g.1.aQ=o.aQ)) || !mk.before o then 272 else if g.1.hold≠o.who then 273 else if hasB g.1.aN 1=false then 274 else if dG o g.1 then 275 else 0):=by
    unfold ew kR;rw [hmk]
  have kh:(((g.1.hold:Nat):Int) != ((o.who:Nat):Int))=decide (g.1.hold≠o.who):=by rw [Bool.eq_iff_iff];simp only [bne_iff_ne,decide_eq_true_eq];omega
  rw [hw]
  rcases (Bool.eq_false_or_eq_true (decide (o.kind≠1))).symm with h1 | h1
  case inr=>
    rw [if_pos (by simpa using h1)]
    (repeat (first | refine SW.seq ?_ | refine SW.block ?_ | refine SW.g0 [0,1,2,4,6,7,8,9,10,14,46,52,57,83] mixed (And.intro (k1) (h1)) ?_ | refine SW.skip ?_ | refine SW.exit ?_ | refine SW.ret ?_ | refine SW.ak rfl ?_ | refine SW.ai rfl ?_))
    exact End.mk [] (h4:=⟨rfl,rfl⟩)
  rw [if_neg (by simpa using h1)]
  obtain ⟨c,is⟩:=g
  dsimp only at*
  cases is with
  | false=>
    (repeat (first | refine SW.seq ?_ | refine SW.block ?_ | (have fx:=(And.intro (k1) (And.intro (h1) (And.intro (em) (kh))));refine SW.bJ [0,1,2,4,6,7,8,9,10,14,46,52,57,83] mixed ?_;(repeat (first | refine RW.ro fx (h:= ?_) | refine RW.skip (h:= ?_) | refine RW.op fx (h:= ?_) | refine RW.dw fx (h:= ?_) | refine RW.aW (h:= ?_) | (refine RW.aY (h:= ?_);(first | refine aj.mk fx (hc:=hgc _) (h:= ?_) | refine aj.mk fx (hc:=hfd _) (h:= ?_) | refine aj.mk fx (hc:=bV _ _ _) (h:= ?_) | refine aj.mk fx (hc:=fA _ 1 hgr ⟨by omega,by omega⟩ _) (h:= ?_) | refine aj.mk fx (hc:=fq _ _ ho hgr _) (h:= ?_)))));refine RW.nil ⟨by kernel_rfl,an.mk (h:= ?_)⟩) | refine SW.skip ?_ | refine SW.exit ?_ | refine SW.ret ?_ | refine SW.ak rfl ?_ | refine SW.ai rfl ?_))
    exact End.mk [] (h4:=⟨by simp only [Bool.not_false,Bool.not_false,Bool.not_true,Bool.true_or,Bool.false_or,Bool.or_true,Bool.or_false,if_true,if_false,Bool.false_eq_true,reduceIte];rfl,rfl⟩)
  | true=>
    rcases (Bool.eq_false_or_eq_true (decide (c.aQ=o.aQ))).symm with h2 | h2
    · skip
      (repeat (first | refine SW.seq ?_ | refine SW.block ?_ | (have fx:=(And.intro (k1) (And.intro (h1) (And.intro (em) (And.intro (kh) (h2)))));refine SW.bJ [0,1,2,4,6,7,8,9,10,14,46,52,57,83] mixed ?_;(repeat (first | refine RW.ro fx (h:= ?_) | refine RW.skip (h:= ?_) | refine RW.op fx (h:= ?_) | refine RW.dw fx (h:= ?_) | refine RW.aW (h:= ?_) | (refine RW.aY (h:= ?_);(first | refine aj.mk fx (hc:=hgc _) (h:= ?_) | refine aj.mk fx (hc:=hfd _) (h:= ?_) | refine aj.mk fx (hc:=bV _ _ _) (h:= ?_) | refine aj.mk fx (hc:=fA _ 1 hgr ⟨by omega,by omega⟩ _) (h:= ?_) | refine aj.mk fx (hc:=fq _ _ ho hgr _) (h:= ?_)))));refine RW.nil ⟨by kernel_rfl,an.mk (h:= ?_)⟩) | refine SW.skip ?_ | refine SW.exit ?_ | refine SW.ret ?_ | refine SW.ak rfl ?_ | refine SW.ai rfl ?_))
      exact End.mk [] (h4:=⟨by simp only [h2,Bool.not_false,Bool.not_true,Bool.true_or,Bool.false_or,Bool.or_true,Bool.or_false,if_true,if_false,Bool.false_eq_true,reduceIte];rfl,rfl⟩)
    · skip
      rcases (Bool.eq_false_or_eq_true (mk.before o)).symm with h3 | h3
      · skip
        (repeat (first | refine SW.seq ?_ | refine SW.block ?_ | (have fx:=(And.intro (k1) (And.intro (h1) (And.intro (em) (And.intro (kh) (And.intro (h2) (h3))))));refine SW.bJ [0,1,2,4,6,7,8,9,10,14,46,52,57,83] mixed ?_;(repeat (first | refine RW.ro fx (h:= ?_) | refine RW.skip (h:= ?_) | refine RW.op fx (h:= ?_) | refine RW.dw fx (h:= ?_) | refine RW.aW (h:= ?_) | (refine RW.aY (h:= ?_);(first | refine aj.mk fx (hc:=hgc _) (h:= ?_) | refine aj.mk fx (hc:=hfd _) (h:= ?_) | refine aj.mk fx (hc:=bV _ _ _) (h:= ?_) | refine aj.mk fx (hc:=fA _ 1 hgr ⟨by omega,by omega⟩ _) (h:= ?_) | refine aj.mk fx (hc:=fq _ _ ho hgr _) (h:= ?_)))));refine RW.nil ⟨by kernel_rfl,an.mk (h:= ?_)⟩) | refine SW.skip ?_ | refine SW.exit ?_ | refine SW.ret ?_ | refine SW.ak rfl ?_ | refine SW.ai rfl ?_))
        exact End.mk [] (h4:=⟨by simp only [h2,h3,Bool.not_false,Bool.not_true,Bool.true_or,Bool.false_or,Bool.or_true,Bool.or_false,if_true,if_false,Bool.false_eq_true,reduceIte];rfl,rfl⟩)
      · skip
        rcases (Bool.eq_false_or_eq_true (decide (c.hold≠o.who))).symm with h4 | h4
        rotate_left
        · skip
          (repeat (first | refine SW.seq ?_ | refine SW.block ?_ | (have fx:=(And.intro (k1) (And.intro (h1) (And.intro (em) (And.intro (kh) (And.intro (h2) (And.intro (h3) (h4)))))));refine SW.bJ [0,1,2,4,6,7,8,9,10,14,46,52,57,83] mixed ?_;(repeat (first | refine RW.ro fx (h:= ?_) | refine RW.skip (h:= ?_) | refine RW.op fx (h:= ?_) | refine RW.dw fx (h:= ?_) | refine RW.aW (h:= ?_) | (refine RW.aY (h:= ?_);(first | refine aj.mk fx (hc:=hgc _) (h:= ?_) | refine aj.mk fx (hc:=hfd _) (h:= ?_) | refine aj.mk fx (hc:=bV _ _ _) (h:= ?_) | refine aj.mk fx (hc:=fA _ 1 hgr ⟨by omega,by omega⟩ _) (h:= ?_) | refine aj.mk fx (hc:=fq _ _ ho hgr _) (h:= ?_)))));refine RW.nil ⟨by kernel_rfl,an.mk (h:= ?_)⟩) | refine SW.skip ?_ | refine SW.exit ?_ | refine SW.ret ?_ | refine SW.ak rfl ?_ | refine SW.ai rfl ?_))
          exact End.mk [] (h4:=⟨by simp only [h2,h3,ne_eq,not_false_eq_true,show ¬ c.hold=o.who by simpa using h4,Bool.not_false,Bool.not_true,Bool.true_or,Bool.false_or,Bool.or_true,Bool.or_false,if_true,if_false,Bool.false_eq_true,reduceIte];rfl,rfl⟩)
        · skip
          rcases (Bool.eq_false_or_eq_true (hasB c.aN 1)).symm with h5 | h5
          · skip
            (repeat (first | refine SW.seq ?_ | refine SW.block ?_ | (have fx:=(And.intro (k1) (And.intro (h1) (And.intro (em) (And.intro (kh) (And.intro (h2) (And.intro (h3) (And.intro (h4) (h5))))))));refine SW.bJ [0,1,2,4,6,7,8,9,10,14,46,52,57,83] mixed ?_;(repeat (first | refine RW.ro fx (h:= ?_) | refine RW.skip (h:= ?_) | refine RW.op fx (h:= ?_) | refine RW.dw fx (h:= ?_) | refine RW.aW (h:= ?_) | (refine RW.aY (h:= ?_);(first | refine aj.mk fx (hc:=hgc _) (h:= ?_) | refine aj.mk fx (hc:=hfd _) (h:= ?_) | refine aj.mk fx (hc:=bV _ _ _) (h:= ?_) | refine aj.mk fx (hc:=fA _ 1 hgr ⟨by omega,by omega⟩ _) (h:= ?_) | refine aj.mk fx (hc:=fq _ _ ho hgr _) (h:= ?_)))));refine RW.nil ⟨by kernel_rfl,an.mk (h:= ?_)⟩) | refine SW.skip ?_ | refine SW.exit ?_ | refine SW.ret ?_ | refine SW.ak rfl ?_ | refine SW.ai rfl ?_))
            exact End.mk [] (h4:=⟨by simp only [h2,h3,show ¬ c.hold≠o.who by simpa using h4,h5,Bool.not_false,Bool.not_true,Bool.true_or,Bool.false_or,Bool.or_true,Bool.or_false,if_true,if_false,Bool.false_eq_true,reduceIte];rfl,rfl⟩)
          · skip
            rcases (Bool.eq_false_or_eq_true (iC o.aN c.aN)).symm with h6 | h6
            · skip
              have hn:dG o c=true:=by unfold dG;rw [h6];rfl
              (repeat (first | refine SW.seq ?_ | refine SW.block ?_ | (have fx:=(And.intro (k1) (And.intro (h1) (And.intro (em) (And.intro (kh) (And.intro (h2) (And.intro (h3) (And.intro (h4) (And.intro (h5) (h6)))))))));refine SW.bJ [0,1,2,4,6,7,8,9,10,14,46,52,57,83] mixed ?_;(repeat (first | refine RW.ro fx (h:= ?_) | refine RW.skip (h:= ?_) | refine RW.op fx (h:= ?_) | refine RW.dw fx (h:= ?_) | refine RW.aW (h:= ?_) | (refine RW.aY (h:= ?_);(first | refine aj.mk fx (hc:=hgc _) (h:= ?_) | refine aj.mk fx (hc:=hfd _) (h:= ?_) | refine aj.mk fx (hc:=bV _ _ _) (h:= ?_) | refine aj.mk fx (hc:=fA _ 1 hgr ⟨by omega,by omega⟩ _) (h:= ?_) | refine aj.mk fx (hc:=fq _ _ ho hgr _) (h:= ?_)))));refine RW.nil ⟨by kernel_rfl,an.mk (h:= ?_)⟩) | refine SW.skip ?_ | refine SW.exit ?_ | refine SW.ret ?_ | refine SW.ak rfl ?_ | refine SW.ai rfl ?_))
              exact End.mk [] (h4:=⟨by simp only [h2,h3,show ¬ c.hold≠o.who by simpa using h4,h5,hn,Bool.not_false,Bool.not_true,Bool.true_or,Bool.false_or,Bool.or_true,Bool.or_false,if_true,if_false,Bool.false_eq_true,reduceIte];rfl,rfl⟩)
            · skip
              rcases (Bool.eq_false_or_eq_true (((o.to:Int) == 0))).symm with h7 | h7
              rotate_left
              · skip
                have hn:dG o c=true:=by unfold dG;rw [h6,h7];simp
                (repeat (first | refine SW.seq ?_ | refine SW.block ?_ | (have fx:=(And.intro (k1) (And.intro (h1) (And.intro (em) (And.intro (kh) (And.intro (h2) (And.intro (h3) (And.intro (h4) (And.intro (h5) (And.intro (h6) (h7))))))))));refine SW.bJ [0,1,2,4,6,7,8,9,10,14,46,52,57,83] mixed ?_;(repeat (first | refine RW.ro fx (h:= ?_) | refine RW.skip (h:= ?_) | refine RW.op fx (h:= ?_) | refine RW.dw fx (h:= ?_) | refine RW.aW (h:= ?_) | (refine RW.aY (h:= ?_);(first | refine aj.mk fx (hc:=hgc _) (h:= ?_) | refine aj.mk fx (hc:=hfd _) (h:= ?_) | refine aj.mk fx (hc:=bV _ _ _) (h:= ?_) | refine aj.mk fx (hc:=fA _ 1 hgr ⟨by omega,by omega⟩ _) (h:= ?_) | refine aj.mk fx (hc:=fq _ _ ho hgr _) (h:= ?_)))));refine RW.nil ⟨by kernel_rfl,an.mk (h:= ?_)⟩) | refine SW.skip ?_ | refine SW.exit ?_ | refine SW.ret ?_ | refine SW.ak rfl ?_ | refine SW.ai rfl ?_))
                exact End.mk [] (h4:=⟨by simp only [h2,h3,show ¬ c.hold≠o.who by simpa using h4,h5,hn,Bool.not_false,Bool.not_true,Bool.true_or,Bool.false_or,Bool.or_true,Bool.or_false,if_true,if_false,Bool.false_eq_true,reduceIte];rfl,rfl⟩)
              · skip
                rcases (Bool.eq_false_or_eq_true (decide ((o.depth:Int)≥c.depth))).symm with h8 | h8
                rotate_left
                · skip
                  have hn:dG o c=true:=by unfold dG;rw [h6,h7,h8];simp
                  (repeat (first | refine SW.seq ?_ | refine SW.block ?_ | (have fx:=(And.intro (k1) (And.intro (h1) (And.intro (em) (And.intro (kh) (And.intro (h2) (And.intro (h3) (And.intro (h4) (And.intro (h5) (And.intro (h6) (And.intro (h7) (h8)))))))))));refine SW.bJ [0,1,2,4,6,7,8,9,10,14,46,52,57,83] mixed ?_;(repeat (first | refine RW.ro fx (h:= ?_) | refine RW.skip (h:= ?_) | refine RW.op fx (h:= ?_) | refine RW.dw fx (h:= ?_) | refine RW.aW (h:= ?_) | (refine RW.aY (h:= ?_);(first | refine aj.mk fx (hc:=hgc _) (h:= ?_) | refine aj.mk fx (hc:=hfd _) (h:= ?_) | refine aj.mk fx (hc:=bV _ _ _) (h:= ?_) | refine aj.mk fx (hc:=fA _ 1 hgr ⟨by omega,by omega⟩ _) (h:= ?_) | refine aj.mk fx (hc:=fq _ _ ho hgr _) (h:= ?_)))));refine RW.nil ⟨by kernel_rfl,an.mk (h:= ?_)⟩) | refine SW.skip ?_ | refine SW.exit ?_ | refine SW.ret ?_ | refine SW.ak rfl ?_ | refine SW.ai rfl ?_))
                  exact End.mk [] (h4:=⟨by simp only [h2,h3,show ¬ c.hold≠o.who by simpa using h4,h5,hn,Bool.not_false,Bool.not_true,Bool.true_or,Bool.false_or,Bool.or_true,Bool.or_false,if_true,if_false,Bool.false_eq_true,reduceIte];rfl,rfl⟩)
                · skip
                  rcases (Bool.eq_false_or_eq_true (decide ((o.cap:Int)>c.cap))).symm with h9 | h9
                  rotate_left
                  · skip
                    have hn:dG o c=true:=by unfold dG;rw [h6,h7,h8,h9];simp
                    (repeat (first | refine SW.seq ?_ | refine SW.block ?_ | (have fx:=(And.intro (k1) (And.intro (h1) (And.intro (em) (And.intro (kh) (And.intro (h2) (And.intro (h3) (And.intro (h4) (And.intro (h5) (And.intro (h6) (And.intro (h7) (And.intro (h8) (h9))))))))))));refine SW.bJ [0,1,2,4,6,7,8,9,10,14,46,52,57,83] mixed ?_;(repeat (first | refine RW.ro fx (h:= ?_) | refine RW.skip (h:= ?_) | refine RW.op fx (h:= ?_) | refine RW.dw fx (h:= ?_) | refine RW.aW (h:= ?_) | (refine RW.aY (h:= ?_);(first | refine aj.mk fx (hc:=hgc _) (h:= ?_) | refine aj.mk fx (hc:=hfd _) (h:= ?_) | refine aj.mk fx (hc:=bV _ _ _) (h:= ?_) | refine aj.mk fx (hc:=fA _ 1 hgr ⟨by omega,by omega⟩ _) (h:= ?_) | refine aj.mk fx (hc:=fq _ _ ho hgr _) (h:= ?_)))));refine RW.nil ⟨by kernel_rfl,an.mk (h:= ?_)⟩) | refine SW.skip ?_ | refine SW.exit ?_ | refine SW.ret ?_ | refine SW.ak rfl ?_ | refine SW.ai rfl ?_))
                    exact End.mk [] (h4:=⟨by simp only [h2,h3,show ¬ c.hold≠o.who by simpa using h4,h5,hn,Bool.not_false,Bool.not_true,Bool.true_or,Bool.false_or,Bool.or_true,Bool.or_false,if_true,if_false,Bool.false_eq_true,reduceIte];rfl,rfl⟩)
                  · skip
                    have hn:dG o c=false:=by unfold dG;rw [h6,h7,h8,h9];rfl
                    (repeat (first | refine SW.seq ?_ | refine SW.block ?_ | (have fx:=(And.intro (k1) (And.intro (h1) (And.intro (em) (And.intro (kh) (And.intro (h2) (And.intro (h3) (And.intro (h4) (And.intro (h5) (And.intro (h6) (And.intro (h7) (And.intro (h8) (h9))))))))))));refine SW.bJ [0,1,2,4,6,7,8,9,10,14,46,52,57,83] mixed ?_;(repeat (first | refine RW.ro fx (h:= ?_) | refine RW.skip (h:= ?_) | refine RW.op fx (h:= ?_) | refine RW.dw fx (h:= ?_) | refine RW.aW (h:= ?_) | (refine RW.aY (h:= ?_);(first | refine aj.mk fx (hc:=hgc _) (h:= ?_) | refine aj.mk fx (hc:=hfd _) (h:= ?_) | refine aj.mk fx (hc:=bV _ _ _) (h:= ?_) | refine aj.mk fx (hc:=fA _ 1 hgr ⟨by omega,by omega⟩ _) (h:= ?_) | refine aj.mk fx (hc:=fq _ _ ho hgr _) (h:= ?_)))));refine RW.nil ⟨by kernel_rfl,an.mk (h:= ?_)⟩) | refine SW.skip ?_ | refine SW.exit ?_ | refine SW.ret ?_ | refine SW.ak rfl ?_ | refine SW.ai rfl ?_))
                    exact End.mk [] (h4:=⟨by simp only [h2,h3,show ¬ c.hold≠o.who by simpa using h4,h5,hn,Bool.not_false,Bool.not_true,Bool.true_or,Bool.false_or,Bool.or_true,Bool.or_false,if_true,if_false,Bool.false_eq_true,reduceIte];rfl,rfl⟩)
end
end
section
section
attribute [local irreducible] SW RW aG SC aj an cg ew
variable {l:List ag} (hlen:l.length<4611686018427387904) (hl:∀ x,x∈l→x.aN<256)
include hlen hl
set_option maxHeartbeats 4000000 in
theorem Dg (d:Dt):Go.Sl.Pure Tryz.prog ref16_get.f [ops l,.agg d.cells,i64 ((0:Nat):Int)] (.cN [.agg (cg l 0 d).1.cells,bl (cg l 0 d).2]):=by
 refine ref16_get.enter (by first | rfl | simp [SV.ok,SV.av]) (by first | rfl | simp [Hp.ok,Ob.ok,SV.ok,SV.av,aJ.ah]) (by simp) ?_
 dsimp only [ref16_get.s,Co.M,Co.G,Co.J,Co.H,Co.N,Co.F,Co.C,Co.Z,Co.B,Co.b8,Co.ay,Co.bz,Co.i6,Co.z8,Co.bC]
 have e:cg l 0 d=(Cr.zero,false):=by unfold cg;rfl
 rw [e]
 rcases hh:(aT l d).isSome with _ | _
 ·(repeat (first | refine SW.seq ?_ | refine SW.block ?_ | (refine SW.bJ [0,1,2,4,6,7,8,9,10,11,23,27,45] mixed ?_;(repeat (first | refine RW.ro (hh) (h:= ?_) | refine RW.skip (h:= ?_) | refine RW.op (hh) (h:= ?_) | refine RW.dw (hh) (h:= ?_) | refine RW.aW (h:= ?_) | (refine RW.aY (h:= ?_);(first | refine aj.mk (hh) (hc:=oy l hlen _ _) (h:= ?_)))));refine RW.nil ⟨by kernel_rfl,an.mk (h:= ?_)⟩) | refine SW.skip ?_ | refine SW.exit ?_ | refine SW.ret ?_ | refine SW.ak rfl ?_ | refine SW.ai rfl ?_))
  exact End.mk [] (h4:=⟨rfl,rfl⟩)
 ·(repeat (first | refine SW.seq ?_ | refine SW.block ?_ | (refine SW.bJ [0,1,2,4,6,7,8,9,10,11,23,27,45] mixed ?_;(repeat (first | refine RW.ro (hh) (h:= ?_) | refine RW.skip (h:= ?_) | refine RW.op (hh) (h:= ?_) | refine RW.dw (hh) (h:= ?_) | refine RW.aW (h:= ?_) | (refine RW.aY (h:= ?_);(first | refine aj.mk (hh) (hc:=oy l hlen _ _) (h:= ?_)))));refine RW.nil ⟨by kernel_rfl,an.mk (h:= ?_)⟩) | refine SW.skip ?_ | refine SW.exit ?_ | refine SW.ret ?_ | refine SW.ak rfl ?_ | refine SW.ai rfl ?_))
  exact End.mk [] (h4:=⟨rfl,rfl⟩)
set_option maxHeartbeats 4000000 in
theorem Dh (m:Nat)(hm:m<1000)(d:Dt)(hw:∀ o k,o∈l→aG Tryz.prog ref16_why.f [ops l,.agg o.cells,i64 ((m+1:Nat):Int)] [] k 0 (.cN [.agg (ew l (cg l m o.aV) o).1.cells,i64 (ew l (cg l m o.aV) o).2]) []):
  Go.Sl.Pure Tryz.prog ref16_get.f [ops l,.agg d.cells,i64 ((m+1:Nat):Int)] (.cN [.agg (cg l (m+1) d).1.cells,bl (cg l (m+1) d).2]):=by
 refine ref16_get.enter (by first | rfl | simp [SV.ok,SV.av]) (by first | rfl | simp [Hp.ok,Ob.ok,SV.ok,SV.av,aJ.ah]) (by simp) ?_
 dsimp only [ref16_get.s,Co.M,Co.G,Co.J,Co.H,Co.N,Co.F,Co.C,Co.Z,Co.B,Co.b8,Co.ay,Co.bz,Co.i6,Co.z8,Co.bC]
 have k1:(((m+1:Nat):Int) == 0)=false:=by rw [Bool.eq_false_iff];intro h;have:=beq_iff_eq.mp h;omega
 have hgr:cg l (m+1) d=(match aT l d with
  | none=>(Cr.zero,false)
  | some o=>if o.kind=0 then (⟨d,d,⟨0,0⟩,o.who,7,8,1099511627776,0⟩,decide (o.aQ=d)) else
   if (ew l (cg l m o.aV) o).2≠0 then (Cr.zero,false) else (⟨d,o.aQ,o.aV,o.to,o.aN,o.depth,o.cap,IntKind.i64.wrap ((ew l (cg l m o.aV) o).1.level+1)⟩,true)):=by
  first | (rw [cg];done) | (rw [cg];cases aT l d <;> rfl)
 rw [hgr]
 have hf:=oy l hlen d
 rcases hh:aT l d with _ | o
 ·rw [hh] at hf
  simp only [Option.getD_none,Option.isSome_none] at hf
  (repeat (first | refine SW.seq ?_ | refine SW.block ?_ | refine SW.g1 [0,1,2,4,6,7,8,9,10,11,23,27,45] mixed (k1) hf ?_ | refine SW.skip ?_ | refine SW.exit ?_ | refine SW.ret ?_ | refine SW.ak rfl ?_ | refine SW.ai rfl ?_))
  exact End.mk [] (h4:=⟨rfl,rfl⟩)
 ·rw [hh] at hf
  simp only [Option.getD_some,Option.isSome_some] at hf
  have ho:o∈l:=List.mem_of_find?_eq_some hh
  have hw':=fun k=>hw o k ho
  dsimp only
  have k0:(((o.kind:Nat):Int) == 0)=decide (o.kind=0):=by rw [Bool.eq_iff_iff];simp only [beq_iff_eq,decide_eq_true_eq];omega
  rcases (Bool.eq_false_or_eq_true (decide (o.kind=0))).symm with h1 | h1
  rotate_left
  ·rw [if_pos (by simpa using h1)]
   (repeat (first | refine SW.seq ?_ | refine SW.block ?_ | refine SW.g2 [0,1,2,4,6,7,8,9,10,11,23,27,45] mixed (And.intro (k1) (And.intro (k0) (And.intro (h1) (lN)))) hf hw' ?_ | refine SW.skip ?_ | refine SW.exit ?_ | refine SW.ret ?_ | refine SW.ak rfl ?_ | refine SW.ai rfl ?_))
   exact End.mk [] (h4:=⟨rfl,rfl⟩)
  ·rw [if_neg (by simpa using h1)]
   obtain ⟨r,hr⟩:∃ r,ew l (cg l m o.aV) o=r:=⟨_,rfl⟩
   rw [hr] at hw' ⊢
   have k2:(((r.2:Nat):Int) != 0)=decide (r.2≠0):=by rw [Bool.eq_iff_iff];simp only [bne_iff_ne,decide_eq_true_eq];omega
   rcases (Bool.eq_false_or_eq_true (decide (r.2≠0))).symm with h2 | h2
   rotate_left
   ·rw [if_pos (by simpa using h2)]
    (repeat (first | refine SW.seq ?_ | refine SW.block ?_ | refine SW.g2 [0,1,2,4,6,7,8,9,10,11,23,27,45] mixed (And.intro (k1) (And.intro (k0) (And.intro (h1) (And.intro (k2) (And.intro (h2) (pK)))))) hf hw' ?_ | refine SW.skip ?_ | refine SW.exit ?_ | refine SW.ret ?_ | refine SW.ak rfl ?_ | refine SW.ai rfl ?_))
    exact End.mk [] (h4:=⟨rfl,rfl⟩)
   ·rw [if_neg (by simpa using h2)]
    (repeat (first | refine SW.seq ?_ | refine SW.block ?_ | refine SW.g2 [0,1,2,4,6,7,8,9,10,11,23,27,45] mixed (And.intro (k1) (And.intro (k0) (And.intro (h1) (And.intro (k2) (And.intro (h2) (pK)))))) hf hw' ?_ | refine SW.skip ?_ | refine SW.exit ?_ | refine SW.ret ?_ | refine SW.ak rfl ?_ | refine SW.ai rfl ?_))
    exact End.mk [] (h4:=⟨rfl,rfl⟩)
theorem Ga (m:Nat)(hm:m<1000):∀ d,Go.Sl.Pure Tryz.prog ref16_get.f [ops l,.agg d.cells,i64 (m:Int)] (.cN [.agg (cg l m d).1.cells,bl (cg l m d).2]):=by
 induction m with
 | zero=>intro d;exact Dg hlen hl d
 | succ m ih=>
  intro d
  exact Dh hlen hl m (by omega) d fun o k ho=>(An hlen hl m (by omega) o (hl o ho) fun d k=>(ih (by omega) d).sc rfl k).sc rfl k
theorem Ao (m:Nat)(hm:m<1000)(d:Dt)(k:Nat):aG Tryz.prog ref16_get.f [ops l,.agg d.cells,i64 (m:Int)] [] k 0 (.cN [.agg (cg l m d).1.cells,bl (cg l m d).2]) []:=(Ga hlen hl m hm d).sc rfl k
theorem Gb (m:Nat)(hm:m<1000)(o:ag)(ho:o.aN<256)(k:Nat):aG Tryz.prog ref16_why.f [ops l,.agg o.cells,i64 ((m+1:Nat):Int)] [] k 0 (.cN [.agg (ew l (cg l m o.aV) o).1.cells,i64 (ew l (cg l m o.aV) o).2]) []:=
 (An hlen hl m hm o ho fun d k=>Ao hlen hl m hm d k).sc rfl k
theorem Gc (d:Dt):Go.Sl.Pure Tryz.prog ref16_Get.f [ops l,.agg d.cells] (.cN [.agg (cg l 10 d).1.cells,bl (cg l 10 d).2]):=by
 have hg:=fun k=>Ao hlen hl 10 (by omega) d k
 refine ref16_Get.enter (by first | rfl | simp [SV.ok,SV.av]) (by first | rfl | simp [Hp.ok,Ob.ok,SV.ok,SV.av,aJ.ah]) (by simp) ?_
 dsimp only [ref16_Get.s,Co.M,Co.G,Co.J,Co.H,Co.N,Co.F,Co.C,Co.Z,Co.B,Co.b8,Co.ay,Co.bz,Co.i6,Co.z8,Co.bC]
 (repeat (first | refine SW.seq ?_ | refine SW.block ?_ | refine SW.g1 [0,1,3,4,5] mixed af hg ?_ | refine SW.skip ?_ | refine SW.exit ?_ | refine SW.ret ?_ | refine SW.ak rfl ?_ | refine SW.ai rfl ?_))
 exact End.mk [] (h4:=⟨rfl,rfl⟩)
theorem Gd (o:ag)(ho:o.aN<256):Go.Sl.Pure Tryz.prog ref16_Why.f [ops l,.agg o.cells] (i64 (ew l (cg l 10 o.aV) o).2):=by
 have hg:=fun k=>Gb hlen hl 10 (by omega) o ho k
 refine ref16_Why.enter (by first | rfl | simp [SV.ok,SV.av]) (by first | rfl | simp [Hp.ok,Ob.ok,SV.ok,SV.av,aJ.ah]) (by simp) ?_
 dsimp only [ref16_Why.s,Co.M,Co.G,Co.J,Co.H,Co.N,Co.F,Co.C,Co.Z,Co.B,Co.b8,Co.ay,Co.bz,Co.i6,Co.z8,Co.bC]
 (repeat (first | refine SW.seq ?_ | refine SW.block ?_ | refine SW.g1 [0,1,3,4,6] mixed af hg ?_ | refine SW.skip ?_ | refine SW.exit ?_ | refine SW.ret ?_ | refine SW.ak rfl ?_ | refine SW.ai rfl ?_))
 exact End.mk [] (h4:=⟨rfl,rfl⟩)
end
section
variable {l:List ag} (hlen:l.length<4611686018427387904) (hl:∀ x,x∈l→x.aN<256)
include hlen hl
theorem wu (d:Dt)(k:Nat):aG Tryz.prog ref16_Get.f [ops l,.agg d.cells] [] k 0 (.cN [.agg (cg l 10 d).1.cells,bl (cg l 10 d).2]) []:=(Gc hlen hl d).sc rfl k
theorem Ge (o:ag)(ho:o.aN<256)(k:Nat):aG Tryz.prog ref16_Why.f [ops l,.agg o.cells] [] k 0 (i64 (ew l (cg l 10 o.aV) o).2) []:=(Gd hlen hl o ho).sc rfl k
end
end
end Go.Proofs.YtaelhkkjgfobhaaGreat
