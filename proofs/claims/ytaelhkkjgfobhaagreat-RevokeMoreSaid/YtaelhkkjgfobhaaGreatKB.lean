/-
 Trees of credentials: why a grant makes no credential; Get.
-/
import Derived.Test.YtaelhkkjgfobhaaGreatK6
import Derived.Test.YtaelhkkjgfobhaaGreatKA
set_option linter.unusedSectionVars false
set_option linter.unusedVariables false
set_option linter.unusedSimpArgs false
namespace Go.Proofs.YtaelhkkjgfobhaaGreat
open Go.Sl Go.Proofs
section
def Tr.wh (T:Tr)(there:Bool)(c:Cr)(o:ag)(b6 b5 b3 b2:Nat):Hp:=(b6,.box 4 [bl there])::(b5,.box 158 c.cells)::(b3,.box 43 o.cells)::(b2,.box 105 [.ptr T.bx 0])::T.hp
def Tr.by (T:Tr)(o:ag):Cr:=(MM.get T.at_ o.aK).getD Cr.zero
def Tr.is (T:Tr)(o:ag):Bool:=MM.has T.at_ o.aK
def Tr.tw (T:Tr)(o:ag):ag:=(MM.get T.made o.aK).getD ag.zero
def Tr.fP (T:Tr)(o:ag):Bool:=(!T.is o || !decide ((T.by o).aG=o.aG)) || !(T.tw o).before o
def Tr.why (T:Tr)(o:ag):Nat:=
 if o.kind≠1 then 2 else if T.fP o then 272 else if (T.by o).hold≠o.who then 273 else if bits .and .u8 ((T.by o).bp:Int) 1 == 0 then 274 else if gd o (T.by o) then 275 else 0
section
attribute [local irreducible] SW RW aM SC ak au Tr.hp
variable {T:Tr} (hs:T.sep)
include hs in
theorem Fq (o:ag){k n:Nat}(hlt:T.lt k)(hn:k+4≤n):aM Tryz.prog tree_Tree_Why_2.f [.ptr (k+3) 0,.ptr (k+2) 0,.ptr (k+1) 0,.ptr k 0] (T.wh (T.is o) (T.by o) o (k+3) (k+2) (k+1) k) n 0 (bl (T.fP o)) (T.wh (T.is o) (T.by o) o (k+3) (k+2) (k+1) k):=by
 have hb:=hlt.b
 have ha:=hlt.a
 have hmm:=hlt.m
 have hok:∀ q:Nat→Bool,q (k+3)=true→q (k+2)=true→q (k+1)=true→q k=true→q T.bx=true→q T.ma=true→q T.mm=true→Hp.ok q (T.wh (T.is o) (T.by o) o (k+3) (k+2) (k+1) k)=true:=fun q h1 h2 h3 h4 h5 h6 h7=>
  av h1 rfl (av h2 (by simp [Ob.ok]) (av h3 (by simp [Ob.ok]) (av h4 (by simp [Ob.ok,SV.ay,SV.ok,h5]) (Tr.Kq h5 h6 h7))))
 have hl:∀ m,m=k+3∨m=k+2∨m=k+1∨m=k∨m=T.bx∨m=T.ma∨m=T.mm→(lk (T.wh (T.is o) (T.by o) o (k+3) (k+2) (k+1) k) m).isSome=true:=fun m hm=>by
  unfold Tr.wh
  repeat (rw [aa];split;· rfl)
  rcases hm with h | h | h | h | h | h | h
  ·omega
  ·omega
  ·omega
  ·omega
  ·rw [h,T.GH];rfl
  ·rw [h,Tr.IK hs];rfl
  ·rw [h,Tr.KO hs];rfl
 refine SB.same ?_ (hok _ (hl _ (by simp)) (hl _ (by simp)) (hl _ (by simp)) (hl _ (by simp)) (hl _ (by simp)) (hl _ (by simp)) (hl _ (by simp))) (by simp only [SV.ay,SV.ok,hl _ (.inl rfl),hl _ (.inr (.inl rfl)),hl _ (.inr (.inr (.inl rfl))),hl _ (.inr (.inr (.inr (.inl rfl))))];rfl) (fun _=>rfl)
 have hokk:Hp.ok (fun m=>decide (m<n)) (T.wh (T.is o) (T.by o) o (k+3) (k+2) (k+1) k)=true:=hok _ (by simp;omega) (by simp;omega) (by simp;omega) (by simp;omega) (by simp;omega) (by simp;omega) (by simp;omega)
 refine tree_Tree_Why_2.enter (by simp [SV.ay,SV.ok];omega) hokk (by simp) ?_
 dsimp only [tree_Tree_Why_2.s,Co.M,Co.G,Co.J,Co.H,Co.N,Co.F,Co.C,Co.Z,Co.B,Co.b8,Co.aB,Co.bL,Co.i6,Co.z8,Co.bU]
 have u1:List.lookup T.bx T.hp=some (.box 166 [.mp T.ma,.mp T.mm]):=T.GH
 have u3:List.lookup T.mm T.hp=some T.om:=Tr.KO hs
 have n1:=bA (show T.bx≠k+3 by omega)
 have n2:=bA (show T.bx≠k+2 by omega)
 have n3:=bA (show T.bx≠k+1 by omega)
 have n4:=bA (show T.bx≠k by omega)
 have m1:=bA (show T.mm≠k+3 by omega)
 have m2:=bA (show T.mm≠k+2 by omega)
 have m3:=bA (show T.mm≠k+1 by omega)
 have m4:=bA (show T.mm≠k by omega)
 have p1:=bA (show k+3≠k+2 by omega)
 have p2:=bA (show k+3≠k+1 by omega)
 have p3:=bA (show k+3≠k by omega)
 have p4:=bA (show k+2≠k+1 by omega)
 have p5:=bA (show k+2≠k by omega)
 have p6:=bA (show k+1≠k by omega)
 unfold Tr.wh at hokk ⊢
 rcases h1:T.is o with _ | _
 ·rw [h1] at hokk
  (repeat (first | refine SW.seq ?_ | refine SW.block ?_ | (have fx:=(And.intro (n1) (And.intro (n2) (And.intro (n3) (And.intro (n4) (And.intro (p1) (And.intro (p2) (And.intro (p3) (And.intro (p4) (And.intro (p5) (p6))))))))));refine SW.dL [0,1,2,3,4] mixed ?_;(repeat (first | refine RW.ro fx (h:= ?_) | refine RW.skip (h:= ?_) | refine RW.op fx (h:= ?_) | refine RW.eF fx (h:= ?_) | refine RW.bH (h:= ?_) | (refine RW.bJ (h:= ?_);(first | refine ak.mk fx (hc:=jH _ _ _) (h:= ?_)))));refine RW.nil ⟨by kernel_rfl,au.mk (h:= ?_)⟩) | refine SW.skip ?_ | refine SW.exit ?_ | refine SW.ret ?_ | refine SW.ah rfl ?_ | refine SW.aj rfl ?_))
  exact End.mk _ (h3:=fun _ _ h=>h) (h4:=⟨by simp only [Tr.fP,h1];rfl,rfl⟩) (h6:=hokk)
 ·rw [h1] at hokk
  rcases h2:decide ((T.by o).aG=o.aG) with _ | _
  ·(repeat (first | refine SW.seq ?_ | refine SW.block ?_ | (have fx:=(And.intro (n1) (And.intro (n2) (And.intro (n3) (And.intro (n4) (And.intro (p1) (And.intro (p2) (And.intro (p3) (And.intro (p4) (And.intro (p5) (And.intro (p6) (h2)))))))))));refine SW.dL [0,1,2,3,4] mixed ?_;(repeat (first | refine RW.ro fx (h:= ?_) | refine RW.skip (h:= ?_) | refine RW.op fx (h:= ?_) | refine RW.eF fx (h:= ?_) | refine RW.bH (h:= ?_) | (refine RW.bJ (h:= ?_);(first | refine ak.mk fx (hc:=jH _ _ _) (h:= ?_)))));refine RW.nil ⟨by kernel_rfl,au.mk (h:= ?_)⟩) | refine SW.skip ?_ | refine SW.exit ?_ | refine SW.ret ?_ | refine SW.ah rfl ?_ | refine SW.aj rfl ?_))
   exact End.mk _ (h3:=fun _ _ h=>h) (h4:=⟨by simp only [Tr.fP,h1,h2];rfl,rfl⟩) (h6:=hokk)
  ·have e1:(MM.get T.made o.aK).getD ag.zero=T.tw o:=rfl
   have e2:((MM.get T.made o.aK).getD ag.zero).cells=(T.tw o).cells:=rfl
   (repeat (first | refine SW.seq ?_ | refine SW.block ?_ | (have fx:=(And.intro (u1) (And.intro (u3) (And.intro (n1) (And.intro (n2) (And.intro (n3) (And.intro (n4) (And.intro (m1) (And.intro (m2) (And.intro (m3) (And.intro (m4) (And.intro (p1) (And.intro (p2) (And.intro (p3) (And.intro (p4) (And.intro (p5) (And.intro (p6) (And.intro (h2) (e2))))))))))))))))));refine SW.dL [0,1,2,3,4] mixed ?_;(repeat (first | refine RW.ro fx (h:= ?_) | refine RW.skip (h:= ?_) | refine RW.op fx (h:= ?_) | refine RW.eF fx (h:= ?_) | refine RW.bH (h:= ?_) | (refine RW.bJ (h:= ?_);(first | refine ak.mk fx (hc:=jH _ _ _) (h:= ?_)))));refine RW.nil ⟨by kernel_rfl,au.mk (h:= ?_)⟩) | refine SW.skip ?_ | refine SW.exit ?_ | refine SW.ret ?_ | refine SW.ah rfl ?_ | refine SW.aj rfl ?_))
   exact End.mk _ (h3:=fun _ _ h=>h) (h4:=⟨by simp only [Tr.fP,h1,h2];rfl,rfl⟩) (h6:=hokk)
end
abbrev iy (a:MM Dt Cr)(ca:Nat)(m:MM Dt ag)(cm:Nat):Tr:=⟨0,1,2,a,ca,m,cm⟩
abbrev fm (a:MM Dt Cr)(ca:Nat)(m:MM Dt ag)(cm:Nat):Hp:=[(0,.box 166 [.mp 1,.mp 2]),(1,.map (an Dt.cells cv a) ca),(2,.map (an Dt.cells ov m) cm)]
theorem nV (a:MM Dt Cr)(ca:Nat)(m:MM Dt ag)(cm:Nat):(iy a ca m cm).sep:=⟨by show (1:Nat)≠0;decide,by show (2:Nat)≠0;decide,by show (1:Nat)≠2;decide⟩
theorem oR (a:MM Dt Cr)(ca:Nat)(m:MM Dt ag)(cm:Nat){k:Nat}(h:3≤k):(iy a ca m cm).lt k:=⟨by show 0<k;omega,by show 1<k;omega,by show 2<k;omega⟩
theorem cW (a:MM Dt Cr)(ca:Nat)(m:MM Dt ag)(cm:Nat){k:Nat}(h:3≤k):(fm a ca m cm).ok (fun n=>decide (n<k))=true:=Tr.rR (oR a ca m cm h)
theorem jU (a:MM Dt Cr)(ca:Nat)(m:MM Dt ag)(cm:Nat){k:Nat}(h:3≤k):aM Tryz.prog tree_Tree_none.f [.ptr 0 0] (fm a ca m cm) k 0 (.d (.bool false)) (fm a ca m cm):=Fp (nV a ca m cm) (oR a ca m cm h)
theorem Cx (a:MM Dt Cr)(ca:Nat)(m:MM Dt ag)(cm:Nat)(o:ag){n:Nat}(h:7≤n):
  aM Tryz.prog tree_Tree_Why_2.f [.ptr 6 0,.ptr 5 0,.ptr 4 0,.ptr 3 0] ((6,.box 4 [bl (MM.has a o.aK)])::(5,.box 158 ((MM.get a o.aK).getD Cr.zero).cells)::(4,.box 43 o.cells)::(3,.box 105 [.ptr 0 0])::fm a ca m cm) n 0 (bl ((iy a ca m cm).fP o))
   ((6,.box 4 [bl (MM.has a o.aK)])::(5,.box 158 ((MM.get a o.aK).getD Cr.zero).cells)::(4,.box 43 o.cells)::(3,.box 105 [.ptr 0 0])::fm a ca m cm):=Fq (T:=iy a ca m cm) (nV a ca m cm) o (k:=3) (oR a ca m cm (Nat.le_refl 3)) (by omega)
section
attribute [local irreducible] SW RW aM SC ak au Tr.fP gd
def v_:List SV:=[.d (.int .i64 2),.fn (.func 166) [] [.ptr 4 0],.d (.int .i64 272),.fn (.func 167) [] [.ptr 6 0,.ptr 5 0,.ptr 4 0,.ptr 3 0],.d (.int .i64 273),.fn (.func 168) [] [.ptr 5 0,.ptr 4 0],.d (.int .i64 274),.fn (.func 169) [] [.ptr 5 0],.d (.int .i64 275),.fn (.func 170) [] [.ptr 4 0,.ptr 5 0]]
theorem Cy:List.take 2 v_=[.d (.int .i64 2),.fn (.func 166) [] [.ptr 4 0]]:=rfl
theorem Cz:List.take 2 (List.drop 2 v_)=[.d (.int .i64 272),.fn (.func 167) [] [.ptr 6 0,.ptr 5 0,.ptr 4 0,.ptr 3 0]]:=rfl
theorem CA:List.take 2 (List.drop 4 v_)=[.d (.int .i64 273),.fn (.func 168) [] [.ptr 5 0,.ptr 4 0]]:=rfl
theorem CB:List.take 2 (List.drop 6 v_)=[.d (.int .i64 274),.fn (.func 169) [] [.ptr 5 0]]:=rfl
theorem CC:List.take 2 (List.drop 8 v_)=[.d (.int .i64 275),.fn (.func 170) [] [.ptr 4 0,.ptr 5 0]]:=rfl
theorem fC:∀ (x y a b:SV),cU [x,y] 0 [a,b]=[a,b]:=fun _ _ _ _=>rfl
@[simp] theorem Jo:v_.length=10:=rfl
theorem Jp:∀ (x0 x1 x2 x3 x4 x5 x6 x7 x8 x9 a0 b0 a1 b1 a2 b2 a3 b3 a4 b4:SV),cU (cU (cU (cU (cU ([x0,x1,x2,x3,x4,x5,x6,x7,x8,x9]) 0 [a0,b0]) 2 [a1,b1]) 4 [a2,b2]) 6 [a3,b3]) 8 [a4,b4]=[a0,b0,a1,b1,a2,b2,a3,b3,a4,b4]:=fun _ _ _ _ _ _ _ _ _ _ _ _ _ _ _ _ _ _ _ _=>rfl
set_option maxHeartbeats 4000000 in
theorem HB (a:MM Dt Cr)(ca:Nat)(m:MM Dt ag)(cm:Nat)(o:ag):SB Tryz.prog tree_Tree_Why.f [.ptr 0 0,.agg o.cells] (fm a ca m cm) 3 4 (fun r F'=>r=i64 ((iy a ca m cm).why o)∧F'=fm a ca m cm):=by
 refine tree_Tree_Why.enter (by simp [SV.ay,SV.ok]) (cW a ca m cm (Nat.le_refl 3)) (by simp) ?_
 dsimp only [tree_Tree_Why.s,Co.M,Co.G,Co.J,Co.H,Co.N,Co.F,Co.C,Co.Z,Co.B,Co.b8,Co.aB,Co.bL,Co.i6,Co.z8,Co.bU]
 have hend:∀ n,7≤n→Hp.ok (fun m=>decide (m<3+4)) (fm a ca m cm)=true:=fun n _=>cW a ca m cm (by omega)
 refine SW.seq ?_
 (refine SW.dL [0,1,2,3,4,5,6,8,10,31,32,33,37] mixed ?_;(repeat (first | refine RW.ro af (h:= ?_) | refine RW.skip (h:= ?_) | refine RW.op af (h:= ?_) | refine RW.eF af (h:= ?_) | refine RW.bH (h:= ?_) | (refine RW.bJ (h:= ?_);(first | refine ak.mk af (hc:=jU a ca m cm (by omega)) (h:= ?_)))));refine RW.nil ⟨by kernel_rfl,au.mk (h:= ?_)⟩)
 refine SW.seq (SW.seq ?_)
 (refine SW.dL [0,1,2,3,4,5,6,8,10,31,32,33,37] mixed ?_;(repeat (first | refine RW.ro af (h:= ?_) | refine RW.skip (h:= ?_) | refine RW.op af (h:= ?_) | refine RW.eF af (h:= ?_) | refine RW.bH (h:= ?_) | (refine RW.bJ (h:= ?_);(first | refine ak.mk af (hc:=jU a ca m cm (by omega)) (h:= ?_)))));refine RW.nil ⟨by kernel_rfl,au.mk (h:= ?_)⟩)
 refine SW.aj rfl (SW.skip ?_)
 refine (?_:Sl.SW _ _ _ _ _ _)
 obtain ⟨c,hc⟩:∃ c,(MM.get a o.aK).getD Cr.zero=c:=⟨_,rfl⟩
 have q2:=Cx a ca m cm o (n:=8) (by omega)
 rw [hc] at q2
 refine SW.seq ?_
 refine SW.g0 [0,1,2,3,4,5,6,8,10,31,32,33,37] mixed (hc) ?_
 refine SW.seq (SW.seq ?_)
 have eR:[.d (.int .i64 2),.fn (.func 166) [] [.ptr 4 0],.d (.int .i64 272),.fn (.func 167) [] [.ptr 6 0,.ptr 5 0,.ptr 4 0,.ptr 3 0],.d (.int .i64 273),.fn (.func 168) [] [.ptr 5 0,.ptr 4 0],.d (.int .i64 274),.fn (.func 169) [] [.ptr 5 0],.d (.int .i64 275),.fn (.func 170) [] [.ptr 4 0,.ptr 5 0]]=v_:=rfl
 refine SW.g0 [0,1,2,3,4,5,6,8,10,31,32,33,37] mixed (And.intro (xD) (And.intro (Jp) (eR))) ?_
 refine SW.block ?_
 let H7:Hp:=(6,.box 4 [bl (MM.has a o.aK)])::(5,.box 158 c.cells)::(4,.box 43 o.cells)::(3,.box 105 [.ptr 0 0])::fm a ca m cm
 have hH:∀ n,7≤n→Hp.ok (fun m=>decide (m<n)) H7=true:=fun n hn=>av (by simp;omega) rfl (av (by simp;omega) (by simp [Ob.ok]) (av (by simp;omega) (by simp [Ob.ok]) (av (by simp;omega) (by simp [Ob.ok,SV.ay,SV.ok];omega) (cW a ca m cm (by omega)))))
 have hR:SV.ay (fun n=>decide (n<7)) v_=true:=rfl
 let W:Bool→Bool→Bool→Bool→Bool→Nat→Prop:=fun r1 r2 r3 r4 r5 i=>(1≤i→r1=false)∧(2≤i→r2=false)∧(3≤i→r3=false)∧(4≤i→r4=false)∧(5≤i→r5=false)
 have hw:(iy a ca m cm).why o=if o.kind≠1 then 2 else if (iy a ca m cm).fP o then 272 else if c.hold≠o.who then 273 else if bits .and .u8 (c.bp:Int) 1 == 0 then 274 else if gd o c then 275 else 0:=by
  unfold Tr.why Tr.by
  rw [show (iy a ca m cm).at_=a from rfl,hc]
 refine SW.loop (α:={i:Nat // i≤5∧W (decide (o.kind≠1)) ((iy a ca m cm).fP o) (decide (c.hold≠o.who)) (bits .and .u8 (c.bp:Int) 1 == 0) (gd o c) i}) (fun i=>⟨[(32,i64 i.1),(31,.agg v_)],(6,.box 4 [bl (MM.has a o.aK)])::(5,.box 158 c.cells)::(4,.box 43 o.cells)::(3,.box 105 [.ptr 0 0])::[(0,.box 166 [.mp 1,.mp 2]),(1,.map (an Dt.cells cv a) ca),(2,.map (an Dt.cells ov m) cm)],7⟩) (fun i=>5 - i.1) ⟨0,by omega,by simp [W]⟩ id ?_ ?_
 ·exact aJ.same (by simp) (by simp [aY,List.lookup,SV.aC,SV.b_,SV.ok,hR]) (hH 7 (by omega)) (aH (by simp [H7]))
 rintro ⟨i,hi,w1,w2,w3,w4,w5⟩
 have hdrop:∀ (x:Nat×Ob) (o2:Ob),x∈H7→lk ((7,o2)::H7) x.1=some x.2:=fun x o2 hx=>by
  have hl:=aH (h:=H7) (by simp [H7]) x hx
  rw [aa,if_neg ?_]
  ·exact hl
  ·intro e
   have:=(Hp.dH (hH 7 (by omega)) hl).1
   simp at this
   omega
 have hsub:∀ o2:Ob,HSub (fm a ca m cm) ((7,o2)::H7):=fun o2 n ob hn=>by
  have h3:n<3:=by
   have:=(Hp.dH (cW a ca m cm (Nat.le_refl 3)) hn).1
   simpa using this
  show lk ((7,o2)::(6,_)::(5,_)::(4,_)::(3,_)::fm a ca m cm) n=some ob
  rw [aa,if_neg (by omega),aa,if_neg (by omega),aa,if_neg (by omega),aa,if_neg (by omega),aa,if_neg (by omega)]
  exact hn
 have hsub7:HSub (fm a ca m cm) H7:=fun n ob hn=>by
  have h3:n<3:=by
   have:=(Hp.dH (cW a ca m cm (Nat.le_refl 3)) hn).1
   simpa using this
  show lk ((6,_)::(5,_)::(4,_)::(3,_)::fm a ca m cm) n=some ob
  rw [aa,if_neg (by omega),aa,if_neg (by omega),aa,if_neg (by omega),aa,if_neg (by omega)]
  exact hn
 match i,hi,w1,w2,w3,w4,w5 with
 | 0,_,_,_,_,_,_=>
  rcases (Bool.eq_false_or_eq_true (decide (o.kind≠1))).symm with h0 | h0
  ·have con:=zM o (b:=4) (k:=8) (by omega)
   rw [h0] at con
   (repeat (first | refine SW.seq ?_ | refine SW.block ?_ | refine SW.g1 [0,1,2,3,4,5,6,8,10,31,32,33,37] mixed (And.intro (Cy) (fC)) con ?_ | refine SW.skip ?_ | refine SW.exit ?_ | refine SW.ret ?_ | refine SW.ah rfl ?_ | refine SW.aj rfl ?_))
   refine ⟨⟨1,by omega,fun _=>h0,fun h=>absurd h (by omega),fun h=>absurd h (by omega),fun h=>absurd h (by omega),fun h=>absurd h (by omega)⟩,id,by dsimp only;omega,?_⟩
   exact aJ.same (by simp) (by simp [aY,List.lookup,SV.aC,SV.b_,SV.ok,hR]) (hH 7 (by omega)) (fun x hx=>hdrop x _ hx)
  ·have con:=zM o (b:=4) (k:=8) (by omega)
   rw [h0] at con
   (repeat (first | refine SW.seq ?_ | refine SW.block ?_ | refine SW.g1 [0,1,2,3,4,5,6,8,10,31,32,33,37] mixed (And.intro (Cy) (fC)) con ?_ | refine SW.skip ?_ | refine SW.exit ?_ | refine SW.ret ?_ | refine SW.ah rfl ?_ | refine SW.aj rfl ?_))
   exact End.mk (fm a ca m cm) (h3:=hsub _) (h4:=⟨by rw [hw];rw [if_pos (by simpa using h0)];rfl,rfl⟩) (h6:=cW a ca m cm (by omega))
 | 1,_,w1,_,_,_,_=>
  have z1:=w1 (by omega)
  rcases (Bool.eq_false_or_eq_true ((iy a ca m cm).fP o)).symm with h0 | h0
  ·have con:=q2
   rw [h0] at con
   (repeat (first | refine SW.seq ?_ | refine SW.block ?_ | refine SW.g1 [0,1,2,3,4,5,6,8,10,31,32,33,37] mixed (And.intro (Cz) (fC)) con ?_ | refine SW.skip ?_ | refine SW.exit ?_ | refine SW.ret ?_ | refine SW.ah rfl ?_ | refine SW.aj rfl ?_))
   refine ⟨⟨2,by omega,fun _=>z1,fun _=>h0,fun h=>absurd h (by omega),fun h=>absurd h (by omega),fun h=>absurd h (by omega)⟩,id,by dsimp only;omega,?_⟩
   exact aJ.same (by simp) (by simp [aY,List.lookup,SV.aC,SV.b_,SV.ok,hR]) (hH 7 (by omega)) (fun x hx=>hdrop x _ hx)
  ·have con:=q2
   rw [h0] at con
   (repeat (first | refine SW.seq ?_ | refine SW.block ?_ | refine SW.g1 [0,1,2,3,4,5,6,8,10,31,32,33,37] mixed (And.intro (Cz) (fC)) con ?_ | refine SW.skip ?_ | refine SW.exit ?_ | refine SW.ret ?_ | refine SW.ah rfl ?_ | refine SW.aj rfl ?_))
   exact End.mk (fm a ca m cm) (h3:=hsub _) (h4:=⟨by rw [hw];rw [if_neg (by simpa using z1)];rw [if_pos (by simpa using h0)];rfl,rfl⟩) (h6:=cW a ca m cm (by omega))
 | 2,_,w1,w2,_,_,_=>
  have z1:=w1 (by omega)
  have z2:=w2 (by omega)
  rcases (Bool.eq_false_or_eq_true (decide (c.hold≠o.who))).symm with h0 | h0
  ·have con:=zN c o (b:=5) (b2:=4) (k:=8) (by omega) (by omega) (by omega)
   rw [h0] at con
   (repeat (first | refine SW.seq ?_ | refine SW.block ?_ | refine SW.g1 [0,1,2,3,4,5,6,8,10,31,32,33,37] mixed (And.intro (CA) (fC)) con ?_ | refine SW.skip ?_ | refine SW.exit ?_ | refine SW.ret ?_ | refine SW.ah rfl ?_ | refine SW.aj rfl ?_))
   refine ⟨⟨3,by omega,fun _=>z1,fun _=>z2,fun _=>h0,fun h=>absurd h (by omega),fun h=>absurd h (by omega)⟩,id,by dsimp only;omega,?_⟩
   exact aJ.same (by simp) (by simp [aY,List.lookup,SV.aC,SV.b_,SV.ok,hR]) (hH 7 (by omega)) (fun x hx=>hdrop x _ hx)
  ·have con:=zN c o (b:=5) (b2:=4) (k:=8) (by omega) (by omega) (by omega)
   rw [h0] at con
   (repeat (first | refine SW.seq ?_ | refine SW.block ?_ | refine SW.g1 [0,1,2,3,4,5,6,8,10,31,32,33,37] mixed (And.intro (CA) (fC)) con ?_ | refine SW.skip ?_ | refine SW.exit ?_ | refine SW.ret ?_ | refine SW.ah rfl ?_ | refine SW.aj rfl ?_))
   exact End.mk (fm a ca m cm) (h3:=hsub _) (h4:=⟨by rw [hw];rw [if_neg (by simpa using z1)];rw [if_neg (by simpa using z2)];rw [if_pos (by simpa using h0)];rfl,rfl⟩) (h6:=cW a ca m cm (by omega))
 | 3,_,w1,w2,w3,_,_=>
  have z1:=w1 (by omega)
  have z2:=w2 (by omega)
  have z3:=w3 (by omega)
  rcases (Bool.eq_false_or_eq_true ((bits .and .u8 (c.bp:Int) 1 == 0))).symm with h0 | h0
  ·have con:=zO c (b:=5) (k:=8) (by omega)
   rw [h0] at con
   (repeat (first | refine SW.seq ?_ | refine SW.block ?_ | refine SW.g1 [0,1,2,3,4,5,6,8,10,31,32,33,37] mixed (And.intro (CB) (fC)) con ?_ | refine SW.skip ?_ | refine SW.exit ?_ | refine SW.ret ?_ | refine SW.ah rfl ?_ | refine SW.aj rfl ?_))
   refine ⟨⟨4,by omega,fun _=>z1,fun _=>z2,fun _=>z3,fun _=>h0,fun h=>absurd h (by omega)⟩,id,by dsimp only;omega,?_⟩
   exact aJ.same (by simp) (by simp [aY,List.lookup,SV.aC,SV.b_,SV.ok,hR]) (hH 7 (by omega)) (fun x hx=>hdrop x _ hx)
  ·have con:=zO c (b:=5) (k:=8) (by omega)
   rw [h0] at con
   (repeat (first | refine SW.seq ?_ | refine SW.block ?_ | refine SW.g1 [0,1,2,3,4,5,6,8,10,31,32,33,37] mixed (And.intro (CB) (fC)) con ?_ | refine SW.skip ?_ | refine SW.exit ?_ | refine SW.ret ?_ | refine SW.ah rfl ?_ | refine SW.aj rfl ?_))
   exact End.mk (fm a ca m cm) (h3:=hsub _) (h4:=⟨by rw [hw];rw [if_neg (by simpa using z1)];rw [if_neg (by simpa using z2)];rw [if_neg (by simpa using z3)];rw [if_pos (by simpa using h0)];rfl,rfl⟩) (h6:=cW a ca m cm (by omega))
 | 4,_,w1,w2,w3,w4,_=>
  have z1:=w1 (by omega)
  have z2:=w2 (by omega)
  have z3:=w3 (by omega)
  have z4:=w4 (by omega)
  rcases (Bool.eq_false_or_eq_true (gd o c)).symm with h0 | h0
  ·have con:=zP c o (b:=5) (b2:=4) (k:=8) (by omega) (by omega) (by omega)
   rw [h0] at con
   (repeat (first | refine SW.seq ?_ | refine SW.block ?_ | refine SW.g1 [0,1,2,3,4,5,6,8,10,31,32,33,37] mixed (And.intro (CC) (fC)) con ?_ | refine SW.skip ?_ | refine SW.exit ?_ | refine SW.ret ?_ | refine SW.ah rfl ?_ | refine SW.aj rfl ?_))
   refine ⟨⟨5,by omega,fun _=>z1,fun _=>z2,fun _=>z3,fun _=>z4,fun _=>h0⟩,id,by dsimp only;omega,?_⟩
   exact aJ.same (by simp) (by simp [aY,List.lookup,SV.aC,SV.b_,SV.ok,hR]) (hH 7 (by omega)) (fun x hx=>hdrop x _ hx)
  ·have con:=zP c o (b:=5) (b2:=4) (k:=8) (by omega) (by omega) (by omega)
   rw [h0] at con
   (repeat (first | refine SW.seq ?_ | refine SW.block ?_ | refine SW.g1 [0,1,2,3,4,5,6,8,10,31,32,33,37] mixed (And.intro (CC) (fC)) con ?_ | refine SW.skip ?_ | refine SW.exit ?_ | refine SW.ret ?_ | refine SW.ah rfl ?_ | refine SW.aj rfl ?_))
   exact End.mk (fm a ca m cm) (h3:=hsub _) (h4:=⟨by rw [hw];rw [if_neg (by simpa using z1)];rw [if_neg (by simpa using z2)];rw [if_neg (by simpa using z3)];rw [if_neg (by simpa using z4)];rw [if_pos (by simpa using h0)];rfl,rfl⟩) (h6:=cW a ca m cm (by omega))
 | 5,_,w1,w2,w3,w4,w5=>
  have z1:=w1 (by omega)
  have z2:=w2 (by omega)
  have z3:=w3 (by omega)
  have z4:=w4 (by omega)
  have z5:=w5 (by omega)
  (repeat (first | refine SW.seq ?_ | refine SW.block ?_ | refine SW.g0 [0,1,2,3,4,5,6,8,10,31,32,33,37] mixed af ?_ | refine SW.skip ?_ | refine SW.exit ?_ | refine SW.ret ?_ | refine SW.ah rfl ?_ | refine SW.aj rfl ?_))
  exact End.mk (fm a ca m cm) (h3:=hsub7) (h4:=⟨by rw [hw];rw [if_neg (by simpa using z1)];rw [if_neg (by rw [z2];simp)];rw [if_neg (by simpa using z3)];rw [if_neg (by simpa using z4)];rw [if_neg (by simpa using z5)];rfl,rfl⟩) (h6:=cW a ca m cm (by omega))
end
end
section
theorem l7 (T:Tr)(k:Nat):Hp.aC (gx [T.bx,T.ma,T.mm] k) (fm T.at_ T.ca T.made T.cm)=T.hp:=by
 simp only [Hp.aC,fm,List.map_cons,List.map_nil,Ob.aC,SV.aW,SV.aC,ic,cF,Tr.hp]
 rfl
theorem Tr.Jq {T:Tr}(h:T.sep):([T.bx,T.ma,T.mm]:List Nat).Nodup:=Tr.nd h
theorem qK (a:MM Dt Cr)(ca:Nat)(m:MM Dt ag)(cm:Nat):∀ i,i<3→lk (fm a ca m cm) i≠none:=fun i hi=>by
 rcases (show i=0∨i=1∨i=2 by omega) with rfl | rfl | rfl <;> simp [aa]
theorem CD {T:Tr}(hs:T.sep)(o:ag)(k:Nat):aM Tryz.prog tree_Tree_Why.f [.ptr T.bx 0,.agg o.cells] T.hp k 4 (i64 (T.why o)) T.hp:=by
 have h:=SB.qA [T.bx,T.ma,T.mm] (HB T.at_ T.ca T.made T.cm o) (Tr.Jq hs) (qK _ _ _ _) k
 rw [l7] at h
 simp only [SV.aW,SV.aC,ag.ax] at h
 exact h
section
attribute [local irreducible] SW RW aM SC ak au
theorem HC (a:MM Dt Cr)(ca:Nat)(m:MM Dt ag)(cm:Nat)(d:Dt):SB Tryz.prog tree_Tree_Get.f [.ptr 0 0,.agg d.cells] (fm a ca m cm) 3 3 (fun r F'=>r= .dM [.agg ((MM.get a d).getD Cr.zero).cells,i64 (if MM.has a d then 0 else 7)]∧F'=fm a ca m cm):=by
 refine tree_Tree_Get.enter (by simp [SV.ay,SV.ok]) (cW a ca m cm (Nat.le_refl 3)) (by simp) ?_
 dsimp only [tree_Tree_Get.s,Co.M,Co.G,Co.J,Co.H,Co.N,Co.F,Co.C,Co.Z,Co.B,Co.b8,Co.aB,Co.bL,Co.i6,Co.z8,Co.bU]
 rcases hh:MM.has a d with _ | _
 ·(repeat (first | refine SW.seq ?_ | refine SW.block ?_ | (refine SW.dL [0,1,3,4,5,6,7,9,21] mixed ?_;(repeat (first | refine RW.ro (hh) (h:= ?_) | refine RW.skip (h:= ?_) | refine RW.op (hh) (h:= ?_) | refine RW.eF (hh) (h:= ?_) | refine RW.bH (h:= ?_) | (refine RW.bJ (h:= ?_);(first | refine ak.mk (hh) (hc:=jU a ca m cm (by omega)) (h:= ?_)))));refine RW.nil ⟨by kernel_rfl,au.mk (h:= ?_)⟩) | refine SW.skip ?_ | refine SW.exit ?_ | refine SW.ret ?_ | refine SW.ah rfl ?_ | refine SW.aj rfl ?_))
  have e:MM.get a d=none:=by simpa [MM.has] using hh
  rw [e]
  refine End.mk (fm a ca m cm) (h4:=⟨rfl,rfl⟩) (h6:=cW a ca m cm (by omega))
 ·(repeat (first | refine SW.seq ?_ | refine SW.block ?_ | (refine SW.dL [0,1,3,4,5,6,7,9,21] mixed ?_;(repeat (first | refine RW.ro (hh) (h:= ?_) | refine RW.skip (h:= ?_) | refine RW.op (hh) (h:= ?_) | refine RW.eF (hh) (h:= ?_) | refine RW.bH (h:= ?_) | (refine RW.bJ (h:= ?_);(first | refine ak.mk (hh) (hc:=jU a ca m cm (by omega)) (h:= ?_)))));refine RW.nil ⟨by kernel_rfl,au.mk (h:= ?_)⟩) | refine SW.skip ?_ | refine SW.exit ?_ | refine SW.ret ?_ | refine SW.ah rfl ?_ | refine SW.aj rfl ?_))
  refine End.mk (fm a ca m cm) (h4:=⟨rfl,rfl⟩) (h6:=cW a ca m cm (by omega))
theorem get_at {T:Tr}(hs:T.sep)(d:Dt)(k:Nat):aM Tryz.prog tree_Tree_Get.f [.ptr T.bx 0,.agg d.cells] T.hp k 3 (.dM [.agg ((MM.get T.at_ d).getD Cr.zero).cells,i64 (if MM.has T.at_ d then 0 else 7)]) T.hp:=by
 have h:=SB.qA [T.bx,T.ma,T.mm] (HC T.at_ T.ca T.made T.cm d) (Tr.Jq hs) (qK _ _ _ _) k
 rw [l7] at h
 simp only [SV.aW,SV.aC,Dt.ax,Cr.ax] at h
 exact h
end
@[simp] theorem KP (d:Dt):(cU Cr.zero.cells 0 d.cells).length=11:=rfl
@[simp] theorem KQ (d e:Dt):(cU (cU Cr.zero.cells 0 d.cells) 2 e.cells).length=11:=rfl
@[simp] theorem KR (d e f:Dt):(cU (cU (cU Cr.zero.cells 0 d.cells) 2 e.cells) 4 f.cells).length=11:=rfl
def tA (o:ag):Cr:=⟨o.dot,o.dot,⟨0,0⟩,o.who,7,8,1099511627776,0⟩
def yD (T:Tr)(o:ag):Cr:=⟨o.dot,o.aG,o.aK,o.to,o.bp,o.depth,o.cap,IntKind.i64.wrap ((T.by o).level+1)⟩
def Tr.bN (T:Tr)(o:ag):Bool:=(decide (o.kind=0) && !decide (o.aG=o.dot)) || (decide (o.kind=1) && decide (T.why o≠0))
def Tr.mR (T:Tr)(o:ag):Cr:=if o.kind=1 then yD T o else tA o
def Tr.put (T:Tr)(o:ag):Tr×Bool:=if T.bN o then (T,false) else
 ({ T with at_:=MM.put T.at_ T.ca o.dot (T.mR o),ca:=MM.iU T.at_ T.ca o.dot,made:=MM.put T.made T.cm o.dot o,cm:=MM.iU T.made T.cm o.dot},true)
theorem nW (d:Dt)(who:Nat):cU (cU (cU (cU (cU (cU Cr.zero.cells 0 d.cells) 2 d.cells) 6 [.d (.int .u32 (who:Int))]) 7 [.d (.int .u8 7)]) 8 [.d (.int .u8 8)]) 9 [.d (.int .u64 1099511627776)]=(⟨d,d,⟨0,0⟩,who,7,8,1099511627776,0⟩:Cr).cells:=rfl
theorem yE (d e f:Dt)(a b c g:Nat)(l:Int):cU (cU (cU (cU (cU (cU (cU (cU Cr.zero.cells 0 d.cells) 2 e.cells) 4 f.cells) 6 [.d (.int .u32 (a:Int))]) 7 [.d (.int .u8 (b:Int))]) 8 [.d (.int .u8 (c:Int))]) 9 [.d (.int .u64 (g:Int))]) 10 [.d (.int .i64 l)]=(⟨d,e,f,a,b,c,g,l⟩:Cr).cells:=rfl
section
attribute [local irreducible] SW RW aM SC ak au Tr.why
set_option maxHeartbeats 4000000 in
theorem HD (a:MM Dt Cr)(ca:Nat)(m:MM Dt ag)(cm:Nat)(hw1:MM.wf a ca)(IL:MM.wf m cm)(o:ag):
  SB Tryz.prog tree_Tree_put.f [.ptr 0 0,.agg o.cells] (fm a ca m cm) 3 2 (fun r F'=>r=bl ((iy a ca m cm).put o).2∧F'=fm ((iy a ca m cm).put o).1.at_ ((iy a ca m cm).put o).1.ca ((iy a ca m cm).put o).1.made ((iy a ca m cm).put o).1.cm):=by
 refine tree_Tree_put.enter (by simp [SV.ay,SV.ok]) (cW a ca m cm (Nat.le_refl 3)) (by simp) ?_
 dsimp only [tree_Tree_put.s,Co.M,Co.G,Co.J,Co.H,Co.N,Co.F,Co.C,Co.Z,Co.B,Co.b8,Co.aB,Co.bL,Co.i6,Co.z8,Co.bU]
 obtain ⟨W,hW⟩:∃ W,(iy a ca m cm).why o=W:=⟨_,rfl⟩
 have cw:aM Tryz.prog tree_Tree_Why.f [.ptr 0 0,.agg o.cells] (fm a ca m cm) 5 4 (i64 W) (fm a ca m cm):=by
  rw [← hW];exact CD (nV a ca m cm) o 5
 refine SW.seq ?_
 (refine SW.dL [0,1,3,4,5,13,35] mixed ?_;(repeat (first | refine RW.ro af (h:= ?_) | refine RW.skip (h:= ?_) | refine RW.op af (h:= ?_) | refine RW.eF af (h:= ?_) | refine RW.bH (h:= ?_) | (refine RW.bJ (h:= ?_);(first | refine ak.mk af (hc:=jU a ca m cm (by omega)) (h:= ?_)))));refine RW.nil ⟨by kernel_rfl,au.mk (h:= ?_)⟩)
 refine SW.seq ?_
 (refine SW.dL [0,1,3,4,5,13,35] mixed ?_;(repeat (first | refine RW.ro (nW) (h:= ?_) | refine RW.skip (h:= ?_) | refine RW.op (nW) (h:= ?_) | refine RW.eF (nW) (h:= ?_) | refine RW.bH (h:= ?_) | (refine RW.bJ (h:= ?_);(first | refine ak.mk (nW) (hc:=jU a ca m cm (by omega)) (h:= ?_)))));refine RW.nil ⟨by kernel_rfl,au.mk (h:= ?_)⟩)
 refine SW.seq ?_
 have ok9:∀ (a':MM Dt Cr) ca' (m':MM Dt ag) cm',Hp.ok (fun x=>decide (x<3+2)) (fm a' ca' m' cm')=true:=fun a' ca' m' cm'=>cW a' ca' m' cm' (by omega)
 have hR:∀ v,(iy a ca m cm).bN o=v→((decide (o.kind=0) && !decide (o.aG=o.dot)) || (decide (o.kind=1) && decide (W≠0)))=v:=fun v h=>by rw [← h];unfold Tr.bN;rw [hW]
 have k0:(((o.kind:Nat):Int) == 0)=decide (o.kind=0):=by rw [Bool.eq_iff_iff];simp only [beq_iff_eq,decide_eq_true_eq];omega
 have k1:(((o.kind:Nat):Int) == 1)=decide (o.kind=1):=by rw [Bool.eq_iff_iff];simp only [beq_iff_eq,decide_eq_true_eq];omega
 have kW:(((W:Nat):Int) != 0)=decide (W≠0):=by rw [Bool.eq_iff_iff];simp only [bne_iff_ne,decide_eq_true_eq];omega
 have fe1:=r6 (vs:=cv) (kc:=Dt.cells) hw1 o.dot Cr.zero
 have fe2:=r6 (vs:=ov) (kc:=Dt.cells) IL o.dot ag.zero
 have gb:=fun l=>yE o.dot o.aG o.aK o.to o.bp o.depth o.cap l
 have ee:(MM.get a o.aK).getD Cr.zero=(iy a ca m cm).by o:=rfl
 -- it is refused
 have fin0:∀ env,(iy a ca m cm).bN o=true→(env:List (Nat×SV)).lookup 4=some (bl false)→∀ X:Hp,HSub (fm a ca m cm) X→∀ K,5≤K→Sl.Fin 3 2 tree_Tree_put.rv (fun r F'=>r=bl ((iy a ca m cm).put o).2∧F'=fm ((iy a ca m cm).put o).1.at_ ((iy a ca m cm).put o).1.ca ((iy a ca m cm).put o).1.made ((iy a ca m cm).put o).1.cm) ⟨env,X,K⟩:=fun env hr he X hX K hK=>by
  have e:(iy a ca m cm).put o=(iy a ca m cm,false):=by unfold Tr.put;rw [if_pos hr]
  rw [e]
  exact End.mk (ss:=[bl false]) (ob:=True) (fm a ca m cm) (h1:=by simp [tree_Tree_put.rv,Bz,he]) (h2:=trivial) (h3:=hX) (h4:=⟨rfl,rfl⟩) (h5:=rfl) (h6:=ok9 _ _ _ _) (h7:=by simpa using hK)
 rcases (Bool.eq_false_or_eq_true (decide (o.kind=0))).symm with d0 | d0
 ·rcases (Bool.eq_false_or_eq_true (decide (o.kind=1))).symm with d1 | d1
  ·skip
   have hr:(iy a ca m cm).bN o=false:=by unfold Tr.bN;rw [hW,d0,d1];rfl
   have e:(iy a ca m cm).put o=(({ iy a ca m cm with at_:=MM.put a ca o.dot (tA o),ca:=MM.iU a ca o.dot,made:=MM.put m cm o.dot o,cm:=MM.iU m cm o.dot}:Tr),true):=by
    unfold Tr.put Tr.mR;rw [if_neg (by rw [hr];simp),if_neg (by simpa using d1)]
   rw [e]
   (repeat (first | refine SW.seq ?_ | refine SW.block ?_ | refine SW.g1 [0,1,3,4,5,13,35] mixed (And.intro (k0) (And.intro (k1) (And.intro (kW) (And.intro (d0) (And.intro (d1) (And.intro (fe1) (fe2))))))) cw ?_ | refine SW.skip ?_ | refine SW.exit ?_ | refine SW.ret ?_ | refine SW.ah rfl ?_ | refine SW.aj rfl ?_))
   exact End.mk (fm _ _ _ _) (h4:=⟨rfl,rfl⟩) (h6:=ok9 _ _ _ _)
  ·rcases (Bool.eq_false_or_eq_true (decide (W≠0))).symm with dW | dW
   ·skip
    have hr:(iy a ca m cm).bN o=false:=by unfold Tr.bN;rw [hW,d0,d1,dW];rfl
    have e:(iy a ca m cm).put o=(({ iy a ca m cm with at_:=MM.put a ca o.dot (yD (iy a ca m cm) o),ca:=MM.iU a ca o.dot,made:=MM.put m cm o.dot o,cm:=MM.iU m cm o.dot}:Tr),true):=by
     unfold Tr.put Tr.mR;rw [if_neg (by rw [hr];simp),if_pos (by simpa using d1)]
    rw [e]
    (repeat (first | refine SW.seq ?_ | refine SW.block ?_ | refine SW.g1 [0,1,3,4,5,13,35] mixed (And.intro (k0) (And.intro (k1) (And.intro (kW) (And.intro (d0) (And.intro (d1) (And.intro (dW) (And.intro (gb) (And.intro (ee) (And.intro (fe1) (fe2)))))))))) cw ?_ | refine SW.skip ?_ | refine SW.exit ?_ | refine SW.ret ?_ | refine SW.ah rfl ?_ | refine SW.aj rfl ?_))
    exact End.mk (fm _ _ _ _) (h4:=⟨rfl,rfl⟩) (h6:=ok9 _ _ _ _)
   ·have hr:(iy a ca m cm).bN o=true:=by unfold Tr.bN;rw [hW,d0,d1,dW];rfl
    (repeat (first | refine SW.seq ?_ | refine SW.block ?_ | refine SW.g1 [0,1,3,4,5,13,35] mixed (And.intro (k0) (And.intro (k1) (And.intro (kW) (And.intro (d0) (And.intro (d1) (dW)))))) cw ?_ | refine SW.skip ?_ | refine SW.exit ?_ | refine SW.ret ?_ | refine SW.ah rfl ?_ | refine SW.aj rfl ?_))
    exact fin0 _ hr rfl _ (by repeat (first | exact HSub.nil _ | refine HSub.cons (by rfl) ?_)) _ (by simp)
 ·rcases (Bool.eq_false_or_eq_true (decide (o.aG=o.dot))).symm with dc | dc
  ·have hr:(iy a ca m cm).bN o=true:=by unfold Tr.bN;rw [d0,dc];rfl
   (repeat (first | refine SW.seq ?_ | refine SW.block ?_ | refine SW.g1 [0,1,3,4,5,13,35] mixed (And.intro (k0) (And.intro (k1) (And.intro (kW) (And.intro (d0) (dc))))) cw ?_ | refine SW.skip ?_ | refine SW.exit ?_ | refine SW.ret ?_ | refine SW.ah rfl ?_ | refine SW.aj rfl ?_))
   exact fin0 _ hr rfl _ (by repeat (first | exact HSub.nil _ | refine HSub.cons (by rfl) ?_)) _ (by simp)
  ·have d1:decide (o.kind=1)=false:=by simp at d0 ⊢;omega
   have hr:(iy a ca m cm).bN o=false:=by unfold Tr.bN;rw [d0,d1,dc];rfl
   have e:(iy a ca m cm).put o=(({ iy a ca m cm with at_:=MM.put a ca o.dot (tA o),ca:=MM.iU a ca o.dot,made:=MM.put m cm o.dot o,cm:=MM.iU m cm o.dot}:Tr),true):=by
    unfold Tr.put Tr.mR;rw [if_neg (by rw [hr];simp),if_neg (by simpa using d1)]
   rw [e]
   (repeat (first | refine SW.seq ?_ | refine SW.block ?_ | refine SW.g1 [0,1,3,4,5,13,35] mixed (And.intro (k0) (And.intro (k1) (And.intro (kW) (And.intro (d0) (And.intro (d1) (And.intro (dc) (And.intro (fe1) (fe2)))))))) cw ?_ | refine SW.skip ?_ | refine SW.exit ?_ | refine SW.ret ?_ | refine SW.ah rfl ?_ | refine SW.aj rfl ?_))
   exact End.mk (fm _ _ _ _) (h4:=⟨rfl,rfl⟩) (h6:=ok9 _ _ _ _)
end
end
section
theorem Tr.put_eq (T:Tr)(o:ag):T.put o=({ T with at_:=((iy T.at_ T.ca T.made T.cm).put o).1.at_,ca:=((iy T.at_ T.ca T.made T.cm).put o).1.ca,made:=((iy T.at_ T.ca T.made T.cm).put o).1.made,cm:=((iy T.at_ T.ca T.made T.cm).put o).1.cm},((iy T.at_ T.ca T.made T.cm).put o).2):=by
 have e:T.bN o=(iy T.at_ T.ca T.made T.cm).bN o:=rfl
 have e2:T.mR o=(iy T.at_ T.ca T.made T.cm).mR o:=rfl
 unfold Tr.put
 rw [e]
 by_cases h:(iy T.at_ T.ca T.made T.cm).bN o=true
 ·rw [if_pos h,if_pos h]
 ·rw [if_neg h,if_neg h,e2]
theorem Tr.qL (T:Tr)(o:ag):(T.put o).1.bx=T.bx∧(T.put o).1.ma=T.ma∧(T.put o).1.mm=T.mm:=by rw [Tr.put_eq];exact ⟨rfl,rfl,rfl⟩
theorem HE {T:Tr}(hs:T.sep)(hw1:MM.wf T.at_ T.ca)(IL:MM.wf T.made T.cm)(o:ag)(k:Nat):aM Tryz.prog tree_Tree_put.f [.ptr T.bx 0,.agg o.cells] T.hp k 2 (bl (T.put o).2) (T.put o).1.hp:=by
 have h:=SB.qA [T.bx,T.ma,T.mm] (HD T.at_ T.ca T.made T.cm hw1 IL o) (Tr.Jq hs) (qK _ _ _ _) k
 rw [l7] at h
 have h2:=l7 (T.put o).1 k
 obtain ⟨n1,n2,n3⟩:=T.qL o
 rw [n1,n2,n3] at h2
 have e:=T.put_eq o
 simp only [SV.aW,SV.aC,ag.ax] at h
 rw [← h2]
 rw [e]
 exact h
theorem Tr.CE {T:Tr}(hw1:MM.wf T.at_ T.ca)(IL:MM.wf T.made T.cm)(o:ag):MM.wf (T.put o).1.at_ (T.put o).1.ca∧MM.wf (T.put o).1.made (T.put o).1.cm:=by
 unfold Tr.put
 split
 ·exact ⟨hw1,IL⟩
 ·exact ⟨MM.jm hw1 _ _,MM.jm IL _ _⟩
structure kI (b a m:Nat) where
 T:Tr
 e1:T.bx=b
 e2:T.ma=a
 e3:T.mm=m
def kI.step {b a m:Nat}(s:kI b a m)(o:ag):kI b a m×Bool:=(⟨(s.T.put o).1,(s.T.qL o).1.trans s.e1,(s.T.qL o).2.1.trans s.e2,(s.T.qL o).2.2.trans s.e3⟩,(s.T.put o).2)
theorem Fs {b a m:Nat}(h1:a≠b)(h2:m≠b)(h3:a≠m)(B:Nat):
  vo Tryz.prog 123 [.ptr b 0] [] (fun s:kI b a m=>s.T.hp) kI.step 2 (fun _ s=>MM.wf s.T.at_ s.T.ca∧MM.wf s.T.made s.T.cm) (fun _=>True) B where
 nd s:=Tr.nd ⟨by rw [s.e1,s.e2];exact h1,by rw [s.e1,s.e3];exact h2,by rw [s.e2,s.e3];exact h3⟩
 nm s x:=by
  obtain ⟨n1,n2,n3⟩:=s.T.qL x
  show ((s.T.put x).1.hp).map (·.1)=s.T.hp.map (·.1)
  rw [Tr.names,Tr.names,n1,n2,n3]
 nx i s x hI _ _:=Tr.CE hI.1 hI.2 x
 ok s x q h:=by
  obtain ⟨n1,n2,n3⟩:=s.T.qL x
  simp only [Hp.ok,List.all_eq_true,Bool.and_eq_true] at h
  have hm:∀ n,n∈s.T.hp.map (·.1)→q n=true:=fun n hn=>by
   obtain ⟨y,hy,rfl⟩:=List.mem_map.1 hn
   exact (h y hy).1
  rw [Tr.names] at hm
  exact Tr.Kq (by rw [show (s.step x).1.T.bx=s.T.bx from n1];exact hm _ (by simp)) (by rw [show (s.step x).1.T.ma=s.T.ma from n2];exact hm _ (by simp)) (by rw [show (s.step x).1.T.mm=s.T.mm from n3];exact hm _ (by simp))
 call i s x k hI _ _ _:=by
  have:=HE (T:=s.T) ⟨by rw [s.e1,s.e2];exact h1,by rw [s.e1,s.e3];exact h2,by rw [s.e2,s.e3];exact h3⟩ hI.1 hI.2 x k
  rw [s.e1] at this
  exact this
 a1 s q h:=by
  simp only [Hp.ok,List.all_eq_true,Bool.and_eq_true] at h
  have:=(h (s.T.bx,_) (iC s.T.GH)).1
  rw [s.e1] at this
  exact ⟨by simp only [SV.ay,SV.ok,Bool.and_true];exact this,rfl⟩
structure On where
 L:MM Dt Int
 c:Nat
def On.hp (b m:Nat)(s:On):Hp:=[(b,.box 114 [.mp m]),(m,.map (an Dt.cells iv s.L) s.c)]
def On.cnt (s:On)(d:Dt):Int:=(MM.get s.L d).getD 0
def On.step (s:On)(o:ag):On×Bool:=(⟨MM.put s.L s.c o.dot (s.cnt o.dot+1),MM.iU s.L s.c o.dot⟩,decide (s.cnt o.dot+1>1) || decide (o.kind>1))
section
attribute [local irreducible] SW RW aM SC ak au
set_option maxHeartbeats 1000000 in
theorem Ft (s:On)(hw:MM.wf s.L s.c)(o:ag)(hb:0≤s.cnt o.dot∧s.cnt o.dot<1000000000):SB Tryz.prog tree_New_1.f [.agg o.cells,.ptr 0 0] [(0,.box 114 [.mp 1]),(1,.map (an Dt.cells iv s.L) s.c)] 2 1
  (fun r F'=>r=bl (s.step o).2∧F'=[(0,.box 114 [.mp 1]),(1,.map (an Dt.cells iv (s.step o).1.L) (s.step o).1.c)]):=by
 refine tree_New_1.enter (by simp [SV.ay,SV.ok]) (by simp [Hp.ok,Ob.ok,SV.ay,SV.ok,bM]) (by simp) ?_
 dsimp only [tree_New_1.s,Co.M,Co.G,Co.J,Co.H,Co.N,Co.F,Co.C,Co.Z,Co.B,Co.b8,Co.aB,Co.bL,Co.i6,Co.z8,Co.bU]
 have fe:=r6 (vs:=iv) (kc:=Dt.cells) hw o.dot 0
 have e0:(MM.get s.L o.dot).getD 0=s.cnt o.dot:=rfl
 have e1:IntKind.i64.wrap (s.cnt o.dot+1)=s.cnt o.dot+1:=wrap_i64 _ (by omega)
 have e2:(MM.get (MM.put s.L s.c o.dot (s.cnt o.dot+1)) o.dot).getD 0=s.cnt o.dot+1:=by rw [MM.fB,if_pos rfl];rfl
 have e3:decide ((o.kind:Int)>1)=decide (o.kind>1):=by rw [Bool.eq_iff_iff];simp only [decide_eq_true_eq];omega
 refine SW.seq ?_
 refine SW.g0 [0,1,2,3] mixed af ?_
 refine SW.cut (stM:=⟨[(2,.ptr 2 0),(1,.ptr 0 0)],[(2,.box 43 o.cells),(0,.box 114 [.mp 1]),(1,.map (an Dt.cells iv (s.step o).1.L) (s.step o).1.c)],3⟩) id (SW.tree mixed ?_) ?_
 ·have e3':(MM.get (MM.vQ s.L s.c o.dot 0) o.dot).getD 0=s.cnt o.dot:=by
   unfold MM.vQ On.cnt
   cases hh:MM.idx s.L o.dot with
   | none=>
    have h1:=MM.jP.1 hh
    have h2:s.L.find? (fun x=>decide (o.dot=x.2.1))=none:=by
     unfold MM.get at h1
     simpa using h1
    rw [h1]
    simp [MM.get,List.find?_append,h2]
   | some i=>rfl
  repeat' (first
   | refine vk.s1 _ (h1:= ?_)
   | refine vk.s2 _ _ (h1:= ?_) (h2:= ?_)
   | refine vk.s3 _ _ _ (h1:= ?_) (h2:= ?_) (h3:= ?_)
   | refine Oa.mk (And.intro fe (And.intro e0 (And.intro e1 e3'))) (h:= ?_))
  all_goals (refine vk.done (by kernel_rfl) (aJ.same (by simp) (by simp [aY,List.lookup,SV.aC,SV.ok]) (by simp [Hp.ok,Ob.ok,SV.ay,SV.ok,bM]) (fun x hx=> ?_)))
  all_goals (simp only [List.mem_cons,List.not_mem_nil,or_false] at hx;rcases hx with rfl | rfl | rfl <;> rfl)
 have hE:∀ b,(s.step o).2=b→∀ env:List (Nat×SV),env.lookup 3=some (bl b)→Sl.Fin 2 1 tree_New_1.rv (fun r F'=>r=bl (s.step o).2∧F'=[(0,.box 114 [.mp 1]),(1,.map (an Dt.cells iv (s.step o).1.L) (s.step o).1.c)]) ⟨env,[(2,.box 43 o.cells),(0,.box 114 [.mp 1]),(1,.map (an Dt.cells iv (s.step o).1.L) (s.step o).1.c)],3⟩:=fun b hb env he=>
  End.mk (ss:=[bl b]) (ob:=True) [(0,.box 114 [.mp 1]),(1,.map (an Dt.cells iv (s.step o).1.L) (s.step o).1.c)] (h1:=by simp [tree_New_1.rv,Bz,he]) (h2:=trivial) (h3:=by repeat (first | exact HSub.nil _ | refine HSub.cons (by rfl) ?_)) (h4:=⟨by rw [hb];rfl,rfl⟩) (h5:=rfl) (h6:=by simp [Hp.ok,Ob.ok,SV.ay,SV.ok,bM])
 have e5:(MM.get (s.step o).1.L o.dot).getD 0=s.cnt o.dot+1:=e2
 rcases (Bool.eq_false_or_eq_true (decide (s.cnt o.dot+1>1))).symm with h1 | h1
 ·have er:(s.step o).2=decide (o.kind>1):=by unfold On.step;rw [h1];rfl
  (repeat (first | refine SW.seq ?_ | refine SW.block ?_ | refine SW.g0 [0,1,2,3] mixed (And.intro (e5) (And.intro (e3) (h1))) ?_ | refine SW.skip ?_ | refine SW.exit ?_ | refine SW.ret ?_ | refine SW.ah rfl ?_ | refine SW.aj rfl ?_))
  exact hE _ er _ rfl
 ·have er:(s.step o).2=true:=by unfold On.step;rw [h1];rfl
  (repeat (first | refine SW.seq ?_ | refine SW.block ?_ | refine SW.g0 [0,1,2,3] mixed (And.intro (e5) (And.intro (e3) (h1))) ?_ | refine SW.skip ?_ | refine SW.exit ?_ | refine SW.ret ?_ | refine SW.ah rfl ?_ | refine SW.aj rfl ?_))
  exact hE _ er _ rfl
end
theorem On.names (b m:Nat)(s:On):(s.hp b m).map (·.1)=[b,m]:=rfl
theorem Fu {b m:Nat}(h1:m≠b)(s:On)(hw:MM.wf s.L s.c)(o:ag)(hb:0≤s.cnt o.dot∧s.cnt o.dot<1000000000)(k:Nat):aM Tryz.prog tree_New_1.f [.agg o.cells,.ptr b 0] (s.hp b m) k 1 (bl (s.step o).2) ((s.step o).1.hp b m):=by
 have h:=SB.qA [b,m] (Ft s hw o hb) (by simp;exact Ne.symm h1) (fun i hi=>by
  rcases (show i=0∨i=1 by simp at hi;omega) with rfl | rfl <;> simp [aa]) k
 simp only [SV.aW,SV.aC,ag.ax,Hp.aC,List.map_cons,List.map_nil,Ob.aC,eC] at h
 exact h
theorem CF {b m:Nat}(h1:m≠b):
  vo Tryz.prog 122 [] [.ptr b 0] (On.hp b m) On.step 1 (fun i s=>MM.wf s.L s.c∧∀ d,0≤s.cnt d∧s.cnt d≤(i:Int)) (fun _=>True) 1000000000 where
 nd s:=by rw [On.names];simp;exact Ne.symm h1
 nm s x:=rfl
 nx i s x hI _ hi:=by
  refine ⟨MM.jm hI.1 _ _,fun d=> ?_⟩
  have hx:=hI.2 x.dot
  show 0≤(MM.get (MM.put s.L s.c x.dot (s.cnt x.dot+1)) d).getD 0∧(MM.get (MM.put s.L s.c x.dot (s.cnt x.dot+1)) d).getD 0≤((i+1:Nat):Int)
  rw [MM.fB]
  split
  ·simp only [Option.getD_some];omega
  ·have:=hI.2 d
   unfold On.cnt at this
   omega
 ok s x q h:=by
  simp only [Hp.ok,On.hp,List.all_cons,List.all_nil,Ob.ok,SV.ay,SV.ok,bM,Bool.and_true] at h ⊢
  exact h
 call i s x k hI _ hi _:=Fu h1 s hI.1 x (by have:=hI.2 x.dot;omega) k
 a1 s q h:=by
  simp only [Hp.ok,On.hp,List.all_cons,List.all_nil,Ob.ok,SV.ay,SV.ok,bM,Bool.and_true,Bool.and_eq_true] at h ⊢
  exact ⟨trivial,h.1.1⟩
end
section
abbrev TS:=kI 2 0 1
def HF:TS:=⟨⟨2,0,1,[],0,[],0⟩,rfl,rfl,rfl⟩
def grow:Nat→TS→List ag→TS
 | 0,s,W=>s
 | f+1,s,W=>if (bG kI.step s W).1.length<W.length then grow f (bG kI.step s W).2 (bG kI.step s W).1 else (bG kI.step s W).2
theorem vq:∀ (f g:Nat) (s:TS) (W:List ag),W.length<f→W.length<g→grow f s W=grow g s W
 | 0,g,s,W,h,_=>by omega
 | f+1,0,s,W,_,h=>by omega
 | f+1,g+1,s,W,h1,h2=>by
  simp only [grow]
  split
  ·exact vq f g _ _ (by omega) (by omega)
  ·rfl
theorem AV {s:TS}{W:List ag}(h:(bG kI.step s W).1.length<W.length):grow (W.length+1) s W=grow ((bG kI.step s W).1.length+1) (bG kI.step s W).2 (bG kI.step s W).1:=by
 rw [show grow (W.length+1) s W=grow W.length (bG kI.step s W).2 (bG kI.step s W).1 by simp only [grow];rw [if_pos h]]
 exact vq _ _ _ _ h (Nat.lt_succ_self _)
theorem CG {s:TS}{W:List ag}(h: ¬ (bG kI.step s W).1.length<W.length):grow (W.length+1) s W=(bG kI.step s W).2:=by
 simp only [grow];rw [if_neg h]
def firsts (l:List ag):List ag:=(bG On.step ⟨[],0⟩ l).1
def a_ (l:List ag):Tr:=(grow ((firsts l).length+1) HF (firsts l)).T
theorem kI.sep (s:kI 2 0 1):s.T.sep:=⟨by rw [s.e1,s.e2];decide,by rw [s.e1,s.e3];decide,by rw [s.e2,s.e3];decide⟩
theorem kI.lt (s:kI 2 0 1){k:Nat}(h:3≤k):s.T.lt k:=⟨by rw [s.e1];omega,by rw [s.e2];omega,by rw [s.e3];omega⟩
def kI.wf (s:kI 2 0 1):Prop:=MM.wf s.T.at_ s.T.ca∧MM.wf s.T.made s.T.cm
theorem HH:HF.wf:=⟨MM.kB,MM.kB⟩
theorem zQ:∀ (W:List ag) (s:TS),s.wf→(bG kI.step s W).2.wf
 | [],s,h=>h
 | x::W,s,h=>zQ W _ (Tr.CE h.1 h.2 x)
theorem HJ:HF.T.hp=[(2,.box 166 [.mp 0,.mp 1]),(0,.map [] 0),(1,.map [] 0)]:=rfl
section
attribute [local irreducible] SW RW aM SC ak au Tr.hp
set_option maxHeartbeats 4000000 in
theorem HK (l:List ag)(hl:l.length<1000000000):SB Tryz.prog tree_New.f [ops l] [] 0 7 (fun r F'=>r= .ptr 2 0∧F'=(a_ l).hp):=by
 refine tree_New.enter (by first | rfl | simp [SV.ok,SV.ay]) (by first | rfl | simp [Hp.ok,Ob.ok,SV.ok,SV.ay,aL.ai]) (by simp) ?_
 dsimp only [tree_New.s,Co.M,Co.G,Co.J,Co.H,Co.N,Co.F,Co.C,Co.Z,Co.B,Co.b8,Co.aB,Co.bL,Co.i6,Co.z8,Co.bU]
 have spl1:∀ (x y:SV),cU [x] 0 [y]=[y]:=fun _ _=>rfl
 have splm:∀ (x y a b:SV),cU (cU [x,y] 0 [a]) 1 [b]=[a,b]:=fun _ _ _ _=>rfl
 refine SW.seq ?_
 refine SW.g0 [0,2,3,4,5,6,7,17] mixed af ?_
 refine SW.seq ?_
 refine SW.g0 [0,2,3,4,5,6,7,17] mixed (splm) ?_
 refine SW.seq ?_
 refine SW.g0 [0,2,3,4,5,6,7,17] mixed (spl1) ?_
 have ho:(On.hp 4 3 ⟨[],0⟩)=[(4,.box 114 [.mp 3]),(3,.map [] 0)]:=rfl
 have h0:kC (On.hp 4 3) 6 7 ⟨[],0⟩ ⟨[],0⟩:=⟨rfl,by decide,by rw [ho];rfl⟩
 have cD:=tv (CF (b:=4) (m:=3) (by omega)) l ⟨[],0⟩ hl (Nat.le_of_lt hl) (fun _ _=>trivial) ⟨MM.kB,fun d=>by simp [On.cnt,MM.get]⟩ 6 7 (by omega) h0 (by decide)
 obtain ⟨s1,hs1⟩:∃ s1,(bG On.step ⟨[],0⟩ l).2=s1:=⟨_,rfl⟩
 have hf:(bG On.step ⟨[],0⟩ l).1=firsts l:=rfl
 rw [hs1,hf] at cD
 have cD:aM Tryz.prog slices_DeleteFunc_Lapi_Op_api_Op.f [.gs 6 l.length,.fn (.func 122) [] [.ptr 4 0]] [(6,.arr 43 29 l.length (iW l)),(4,.box 114 [.mp 3]),(3,.map [] 0)] 7 (l.length*1+l.length*(1+1)) (.gs 6 (firsts l).length)
   [(6,.arr 43 29 (firsts l).length (iW (firsts l))),(4,.box 114 [.mp 3]),(3,.map (an Dt.cells iv s1.L) s1.c)]:=cD
 refine SW.seq ?_
 refine SW.g2 [0,2,3,4,5,6,7,17] mixed af (Cq l hl 5) cD ?_
 obtain ⟨K,hK,hK7⟩:∃ K,7+(l.length*1+l.length*(1+1))=K∧7≤K:=⟨_,rfl,by omega⟩
 rw [hK]
 have hlen:(firsts l).length≤l.length:=nU On.step l ⟨[],0⟩
 refine SW.weak id (st1:=⟨[(3,.ptr 2 0),(5,.gs 6 (firsts l).length)],(6,.arr 43 29 (firsts l).length (iW (firsts l)))::HF.T.hp,K⟩) (aJ.same (by simp) (by simp [aY,List.lookup,SV.aC,SV.ok];omega) (av (by simp;omega) (SV.bh _) (Tr.rR (HF.lt (by show 3≤K;omega)))) (fun x hx=> ?_)) ?_
 ·rcases List.mem_cons.1 hx with rfl | hx
  ·rfl
  ·rw [HJ] at hx
   simp only [List.mem_cons,List.not_mem_nil,or_false] at hx
   rcases hx with rfl | rfl | rfl <;> rfl
 refine SW.seq (SW.seq ?_)
 refine SW.g0 [0,2,3,4,5,6,7,17] mixed af ?_
 refine SW.block ?_
 let Inv:Bool→List ag→TS→Prop:=fun b W s=>W.length≤l.length∧s.wf∧(if b then grow (W.length+1) s W else s).T=a_ l
 have hok:∀ (W:List ag) (s:TS) (k:Nat),7≤k→Hp.ok (fun n=>decide (n<k)) ((6,.arr 43 29 W.length (iW W))::s.T.hp)=true:=fun W s k hk=>av (by simp;omega) (SV.bh _) (Tr.rR (s.lt (by omega)))
 have h6:∀ s:TS,lk s.T.hp 6=none:=fun s=>Tr.Lq (s.lt (Nat.le_refl 3)) (by omega)
 have nq:∀ (W:List ag) (s:TS),(((6,Ob.arr 43 29 W.length (iW W))::s.T.hp:Hp).map (·.1)).Nodup:=fun W s=>vX (h6 s) (Tr.nd s.sep)
 refine SW.loop (α:={x:Bool×List ag×TS×Nat // Inv x.1 x.2.1 x.2.2.1∧7≤x.2.2.2}) (fun x=>⟨[(6,bl x.1.1),(3,.ptr 2 0),(5,.gs 6 x.1.2.1.length)],(6,.arr 43 29 x.1.2.1.length (iW x.1.2.1))::x.1.2.2.1.T.hp,x.1.2.2.2⟩) (fun x=>2*x.1.2.1.length+(if x.1.1 then 1 else 0))
  ⟨(true,firsts l,HF,K),⟨hlen,HH,rfl⟩,hK7⟩ id ?_ ?_
 ·exact aJ.same (by simp) (by simp [aY,List.lookup,SV.aC,SV.ok];omega) (hok _ _ _ hK7) (aH (nq _ _))
 rintro ⟨⟨b,W,s,k⟩,⟨hW,hwf,hfin⟩,hk7⟩
 dsimp only at hW hwf hfin hk7 ⊢
 cases b with
 | false=>
  refine SW.seq (SW.seq ?_)
  refine SW.g0 [0,2,3,4,5,6,7,17] mixed af ?_
  refine SW.aj rfl (SW.exit ?_)
  refine (?_:Sl.SW _ _ _ _ _ _)
  refine SW.seq ?_
  refine SW.g0 [0,2,3,4,5,6,7,17] mixed af ?_
  refine SW.ret ?_
  have hfin:s.T=a_ l:=hfin
  rw [← hfin]
  exact End.mk s.T.hp (h3:=pO (h6 s) fun _ _ h=>h) (h4:=⟨rfl,rfl⟩) (h6:=Tr.rR (s.lt (by omega))) (h7:=by simpa using hk7)
 | true=>
  have hfin:(grow (W.length+1) s W).T=a_ l:=hfin
  have hH:kC (fun s:TS=>s.T.hp) 6 k s s:=⟨rfl,Tr.rR (s.lt (by omega)),h6 s⟩
  have cP:=tv (Fs (b:=2) (a:=0) (m:=1) (by omega) (by omega) (by omega) 1000000000) W s (by omega) (by omega) (fun _ _=>trivial) hwf 6 k (by omega) hH (Tr.cl s.sep)
  have hwf':=zQ W s hwf
  have hkl:=nU kI.step W s
  have hmore:=AV (s:=s) (W:=W)
  have hend:=CG (s:=s) (W:=W)
  obtain ⟨W',hW'⟩:∃ W',(bG kI.step s W).1=W':=⟨_,rfl⟩
  obtain ⟨s',hs'⟩:∃ s',(bG kI.step s W).2=s':=⟨_,rfl⟩
  rw [hW',hs'] at cP hmore hend
  rw [hW'] at hkl
  rw [hs'] at hwf'
  have hm:dg (dh ((6,Ob.arr 43 29 W.length (iW W))::s.T.hp) ((6,Ob.arr 43 29 W'.length (iW W'))::s'.T.hp) s.T.hp) s'.T.hp=(6,Ob.arr 43 29 W.length (iW W))::s'.T.hp:=
   vj (by rw [Tr.names,Tr.names,s.e1,s.e2,s.e3,s'.e1,s'.e2,s'.e3]) (nq W s)
  refine SW.seq (SW.seq ?_)
  refine SW.g0 [0,2,3,4,5,6,7,17] mixed af ?_
  refine SW.ah rfl (SW.skip ?_)
  refine (?_:Sl.SW _ _ _ _ _ _)
  refine SW.block (SW.seq ?_)
  refine SW.g0 [0,2,3,4,5,6,7,17] mixed af ?_
  refine SW.seq ?_
  (refine SW.dL [0,2,3,4,5,6,7,17] mixed ?_;(repeat (first | refine RW.ro (hm) (h:= ?_) | refine RW.skip (h:= ?_) | refine RW.op (hm) (h:= ?_) | refine RW.eF (hm) (h:= ?_) | refine RW.bH (h:= ?_) | (refine RW.bJ (h:= ?_);(first | refine ak.mk (hm) (hs:=(fun _ _ h=>h)) (hc:=cP) (h:= ?_)))));refine RW.nil ⟨by kernel_rfl,au.mk (h:= ?_)⟩)
  have e1:decide ((W'.length:Int)<(W.length:Int))=decide (W'.length<W.length):=by rw [Bool.eq_iff_iff];simp only [decide_eq_true_eq];omega
  refine SW.g0 [0,2,3,4,5,6,7,17] mixed (e1) ?_
  refine ⟨⟨(decide (W'.length<W.length),W',s',k+(W.length*2+W.length*(2+1))),⟨by show W'.length≤l.length;omega,hwf',?_⟩,by show 7≤k+_;omega⟩,id,?_,aJ.same (by simp) (by simp [aY,List.lookup,SV.aC,SV.ok];omega) (hok W' s' _ (by show 7≤k+_;omega)) (aH (nq W' s'))⟩
  ·rw [← hfin]
   by_cases h:W'.length<W.length
   ·rw [decide_eq_true h,hmore h];rfl
   ·rw [decide_eq_false h,hend h];rfl
  ·show 2*W'.length+(if decide (W'.length<W.length)=true then 1 else 0)<2*W.length+(if true=true then 1 else 0)
   by_cases h:W'.length<W.length
   ·simp [h] <;> omega
   ·simp [h] <;> omega
end
def Tr.sh (T:Tr)(k:Nat):Tr:={ T with bx:=k+T.bx,ma:=k+T.ma,mm:=k+T.mm}
theorem Tr.Jr (T:Tr)(k:Nat):T.hp.aC (gx [] k)=(T.sh k).hp:=by
 simp only [Tr.hp,Hp.aC,List.map_cons,List.map_nil,Ob.aC,SV.aW,SV.aC,ic,cF,Tr.sh,gx,List.getElem?_nil,List.length_nil,Nat.sub_zero,Nat.add_comm]
def iR (l:List ag)(k:Nat):Tr:=(a_ l).sh k
theorem HL (l:List ag)(hl:l.length<1000000000)(k:Nat):aM Tryz.prog tree_New.f [ops l] [] k 7 (.ptr (iR l k).bx 0) (iR l k).hp:=by
 have h:=SB.new (HK l hl) k
 rw [Tr.Jr] at h
 have e:(a_ l).bx=2:=(grow ((firsts l).length+1) HF (firsts l)).e1
 have e2:(iR l k).bx=k+2:=by show k+(a_ l).bx=_;rw [e]
 rw [e2]
 simp only [SV.aC,gx,List.getElem?_nil,List.length_nil,Nat.sub_zero] at h
 rw [Nat.add_comm k 2]
 exact h
end
section
def j6 (o:ag)(c:Cr):Bool:=((!v7 o.bp c.bp || ((o.to:Int) == 0)) || decide ((o.depth:Int)≥c.depth)) || decide ((o.cap:Int)>c.cap)
def fD (l:List ag)(g:Cr×Bool)(o:ag):Bool:=(!g.2 || !decide (g.1.aG=o.aG)) || !((aD l o.aK).getD ag.zero).before o
def eL (l:List ag)(g:Cr×Bool)(o:ag):Cr×Nat:=
 if o.kind≠1 then (Cr.zero,2) else (g.1,if fD l g o then 272 else if g.1.hold≠o.who then 273 else if hasB g.1.bp 1=false then 274 else if j6 o g.1 then 275 else 0)
def dD (l:List ag):Nat→Dt→Cr×Bool
 | 0,_=>(Cr.zero,false)
 | m +1,d=>match aD l d with
  | none=>(Cr.zero,false)
  | some o=>if o.kind=0 then (⟨d,d,⟨0,0⟩,o.who,7,8,1099511627776,0⟩,decide (o.aG=d)) else
   if (eL l (dD l m o.aK) o).2≠0 then (Cr.zero,false) else (⟨d,o.aG,o.aK,o.to,o.bp,o.depth,o.cap,IntKind.i64.wrap ((eL l (dD l m o.aK) o).1.level+1)⟩,true)
section
attribute [local irreducible] SW RW aM SC ak au dD
variable {l:List ag} (hlen:l.length<4611686018427387904) (hl:∀ x,x∈l→x.bp<256)
include hlen hl
end
end
section
section
attribute [local irreducible] SW RW aM SC ak au dD eL
variable {l:List ag} (hlen:l.length<4611686018427387904) (hl:∀ x,x∈l→x.bp<256)
include hlen hl
end
section
variable {l:List ag} (hlen:l.length<4611686018427387904) (hl:∀ x,x∈l→x.bp<256)
include hlen hl
end
end
end Go.Proofs.YtaelhkkjgfobhaaGreat
