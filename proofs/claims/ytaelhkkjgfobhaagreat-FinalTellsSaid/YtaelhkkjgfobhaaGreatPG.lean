/-
 Trees of credentials: the document's chains, those above, all of a cart.
-/
import Derived.Test.YtaelhkkjgfobhaaGreatP6
import Derived.Test.YtaelhkkjgfobhaaGreatPJ
import Derived.Test.YtaelhkkjgfobhaaGreatPB
import Derived.Test.YtaelhkkjgfobhaaGreatPE
import Derived.Test.YtaelhkkjgfobhaaGreatP5
set_option linter.unusedSectionVars false
set_option linter.unusedVariables false
set_option linter.unusedSimpArgs false
namespace Go.Proofs.YtaelhkkjgfobhaaGreat
open Go.Sl Go.Proofs
attribute [local irreducible] SW RW aF SC ai aq
theorem zn {a:MM Dt Cr}{d:Dt}{L:List Cr}{c:Cr}(hg:MM.get a d=some c):gH a d L= .dm [aW (L.map (·.dot)),.d (.int .i64 0)]:=by
 unfold gH MM.has;rw [hg];simp [aW]
theorem BR {a:MM Dt Cr}{d:Dt}{L:List Cr}(hg:MM.get a d=none):gH a d L= .dm [.d .aJ,.d (.int .i64 7)]:=by
 unfold gH MM.has;rw [hg];rfl
section
variable {l:List ag} (hlen:l.length<4611686018427387904) (hl:∀ x,x∈l→x.aP<256) {T:Tr} (h:kA l T)
include hlen hl h
theorem BS {d:Dt}{c:Cr}(hg:MM.get T.at_ d=some c)(k:Nat):aF Tryz.prog ref16_Get.f [ops l,.agg d.cells] [] k 0 (.dm [.agg c.cells,.d (.bool true)]) []:=by
 have:=xK hlen hl d k;rw [(h.get d).2 c hg] at this;exact this
theorem K6 {d:Dt}(hg:MM.get T.at_ d=none)(k:Nat):aF Tryz.prog ref16_Get.f [ops l,.agg d.cells] [] k 0 (.dm [.agg (c_ l 10 d).1.cells,.d (.bool false)]) []:=by
 have:=xK hlen hl d k;have e:=(h.get d).1;unfold MM.has at e;rw [hg] at e;rw [e] at this;exact this
set_option maxHeartbeats 4000000 in
theorem CJ (d:Dt)(L:List Cr)(hL:mE T.at_ (MM.get T.at_ d) L)(ID:L.length<1000000):Go.Sl.Pure Tryz.prog ref16_Chain.f [ops l,.agg d.cells] (gH T.at_ d L):=by
 cases hg:MM.get T.at_ d with
 | none=>
  rw [BR hg];have hr:=K6 hlen hl h hg;refine ref16_Chain.enter (by first | rfl | simp [SV.ok,SV.ax]) (by first | rfl | simp [Hp.ok,Ob.ok,SV.ok,SV.ax,aB.ak]) (by simp) ?_;dsimp only [ref16_Chain.s,Co.M,Co.J,Co.F,Co.Z,Co.b8,Co.av,Co.bC,Co.i6,Co.T,Co.K,Co.E,Co.Q,Co.x,Co.W,Co.Y,Co.O,Co.D,Co.S];(repeat (first | refine SW.seq ?_ | refine SW.block ?_ | refine SW.g1 [0,1,3,4,5,6,7,8,16,21] mixed af hr ?_ | refine SW.skip ?_ | refine SW.exit ?_ | refine SW.ret ?_ | refine SW.aj rfl ?_ | refine SW.ah rfl ?_));exact End.mk [] (h4:=⟨rfl,rfl⟩)
 | some c=>
  rw [zn hg];have hr:=BS hlen hl h hg;have hc0:L[0]? =some c:=by rw [hg] at hL;exact hL.head
  refine ref16_Chain.enter (by first | rfl | simp [SV.ok,SV.ax]) (by first | rfl | simp [Hp.ok,Ob.ok,SV.ok,SV.ax,aB.ak]) (by simp) ?_;dsimp only [ref16_Chain.s,Co.M,Co.J,Co.F,Co.Z,Co.b8,Co.av,Co.bC,Co.i6,Co.T,Co.K,Co.E,Co.Q,Co.x,Co.W,Co.Y,Co.O,Co.D,Co.S];refine SW.seq ?_;refine SW.g1 [0,1,3,4,5,6,7,8,16,21] mixed af hr ?_;refine SW.seq ?_;refine SW.g1 [0,1,3,4,5,6,7,8,16,21] mixed af hr ?_;refine SW.seq (SW.seq ?_);refine SW.g1 [0,1,3,4,5,6,7,8,16,21] mixed af hr ?_;refine SW.ah rfl (SW.skip ?_);refine SW.seq ?_
  (refine SW.bT [0,1,3,4,5,6,7,8,16,21] mixed ?_;(repeat (first | refine RW.lit af (h:= ?_) | refine RW.ro af (h:= ?_) | refine RW.skip (h:= ?_) | refine RW.op af (h:= ?_) | refine RW.dD af (h:= ?_) | refine RW.aY (h:= ?_)));refine RW.nil ⟨by kernel_rfl,aq.mk (h:= ?_)⟩)
  refine SW.seq (SW.block ?_);have e0:(L.take 1).map (·.dot)=[d]:=by
   have:L.take 1=[c]:=by
    cases L with
    | nil=>cases hc0
    | cons x M=>simp at hc0;simp [hc0]
   rw [this];simp [h.y_ hg]
  refine SW.gY (α:={j:Nat×Cr // L[j.1]? =some j.2}) (fun j=>⟨[(8,.gs 2 (j.1.1+1)),(0,ops l),(6,.ptr 1 0)],[(2,.arr 37 2 (j.1.1+1) ((((L.take (j.1.1+1)).map (·.dot)).flatMap Dt.ds).map .d)),(1,.box 158 j.1.2.cells)],3⟩) (fun j=>L.length - j.1.1) ⟨(0,c),hc0⟩ id (And.intro e0 (And.intro (Dt.lX d) (fun q:Nat→Bool=>Cr.ak c q))) (round:= ?_);rintro ⟨⟨j,x⟩,hx⟩;dsimp only at hx ⊢;have hjl:=iV hx
  by_cases hpos:0<x.level
  ·have h1:decide (x.level>0)=true:=decide_eq_true hpos
   obtain ⟨o,p,q,_,_,hp,_⟩:=h.above (h.uP hL x (List.mem_of_getElem? hx)) hpos;have hj2:j+1<L.length:=by
    refine Classical.byContradiction fun hn=> ?_
    have he:j=L.length - 1:=by omega
    have:=(h.KN hL (x:=x) (by rw [← he];exact hx)).1;omega
   obtain ⟨y,hy⟩:=aZ hj2;have hpy:p=y:=by
    have:=(hL.next j x y hx hy).2;rw [hp] at this;injection this
   subst hpy;have hr2:=BS hlen hl h hp;have e1:(L.take (j+1+1)).map (·.dot)=(L.take (j+1)).map (·.dot)++[x.par]:=by
    rw [bH hy,List.map_append];simp [h.y_ hp]
   have edt:∀ d:Dt,e_ d.cells=some d.ds:=fun _=>rfl
   refine SW.seq (SW.seq ?_);refine SW.g1 [0,1,3,4,5,6,7,8,16,21] mixed (h1) hr2 ?_;refine SW.aj rfl (SW.skip ?_);refine SW.block (SW.seq ?_);refine SW.g1 [0,1,3,4,5,6,7,8,16,21] mixed (edt) hr2 ?_;refine SW.g1 [0,1,3,4,5,6,7,8,16,21] mixed af hr2 ?_;dsimp only;refine ⟨⟨(j+1,p),hy⟩,fun n=>if n=2 then 3 else n,by show L.length - (j+1)<L.length - j;omega,?_⟩;exact aK.mk (And.intro e1 (And.intro (Dt.lX x.par) af))
  ·have h1:decide (x.level>0)=false:=decide_eq_false hpos
   have hlast:j+1=L.length:=by
    refine Classical.byContradiction fun hn=> ?_
    obtain ⟨y,hy⟩:=aZ (show j+1<L.length by omega);exact hpos (hL.next j x y hx hy).1
   refine SW.seq (SW.seq ?_);refine SW.g0 [0,1,3,4,5,6,7,8,16,21] mixed (h1) ?_;refine SW.ah rfl (SW.exit ?_);rw [hlast,List.take_length];refine SW.seq ?_;refine SW.g0 [0,1,3,4,5,6,7,8,16,21] mixed af ?_;refine SW.freeze 2 ((L.map (·.dot)).flatMap Dt.ds) rfl rfl (SW.ret ?_);exact End.mk [] (h4:=⟨by simp [eH,SV.iw],rfl⟩) (h5:=by simp [eH,SV.iw,SV.ok,SV.ax])
theorem wO (d:Dt)(L:List Cr)(hL:mE T.at_ (MM.get T.at_ d) L)(ID:L.length<1000000)(k:Nat):aF Tryz.prog ref16_Chain.f [ops l,.agg d.cells] [] k 0 (gH T.at_ d L) []:=(CJ hlen hl h d L hL ID).sc (by unfold gH;split <;> rfl) k
theorem CK (e d:Dt)(L:List Cr):fG T.at_ e d L=(!decide (e=d) && decide (e∈L.map (·.dot))):=by
 unfold fG
 congr 1
 rw [Bool.eq_iff_iff,List.any_eq_true,decide_eq_true_eq,List.mem_map];constructor
 ·rintro ⟨x,hx,e⟩;exact ⟨x,hx,by simpa using e⟩
 ·rintro ⟨x,hx,e⟩;exact ⟨x,hx,by simpa using e⟩
theorem CL (e d:Dt)(L:List Cr)(hL:mE T.at_ (MM.get T.at_ d) L)(ID:L.length<1000000):Go.Sl.Pure Tryz.prog ref16_Above.f [ops l,.agg e.cells,.agg d.cells] (.d (.bool (fG T.at_ e d L))):=by
 have hc:=wO hlen hl h d L hL ID;cases hg:MM.get T.at_ d with
 | none=>
  rw [BR hg] at hc;have e0:fG T.at_ e d L=false:=by
   rw [hg] at hL;cases hL;unfold fG;simp
  rw [e0];refine ref16_Above.enter (by first | rfl | simp [SV.ok,SV.ax]) (by first | rfl | simp [Hp.ok,Ob.ok,SV.ok,SV.ax,aB.ak]) (by simp) ?_;dsimp only [ref16_Above.s,Co.M,Co.G,Co.J,Co.H,Co.F,Co.C,Co.B,Co.K,Co.E,Co.Q,Co.x,Co.Y,Co.U,Co.S];(repeat (first | refine SW.seq ?_ | refine SW.block ?_ | refine SW.g1 [0,1,2,4,5,6,7,8,16] mixed af hc ?_ | refine SW.skip ?_ | refine SW.exit ?_ | refine SW.ret ?_ | refine SW.aj rfl ?_ | refine SW.ah rfl ?_));exact End.mk [] (h4:=⟨rfl,rfl⟩)
 | some c=>
  rw [zn hg] at hc;rw [CK hlen hl h];have hD:(L.map (·.dot)).length=L.length:=List.length_map ..;generalize L.map (·.dot)=D at hc hD;have hi:=h_ D e (by omega);rcases he:decide (e=d) with _ | _
  ·skip
   refine ref16_Above.enter (by first | rfl | simp [SV.ok,SV.ax]) (by first | rfl | simp [Hp.ok,Ob.ok,SV.ok,SV.ax,aB.ak]) (by simp) ?_;dsimp only [ref16_Above.s,Co.M,Co.G,Co.J,Co.H,Co.F,Co.C,Co.B,Co.K,Co.E,Co.Q,Co.x,Co.Y,Co.U,Co.S];(repeat (first | refine SW.seq ?_ | refine SW.block ?_ | refine SW.g2 [0,1,2,4,5,6,7,8,16] mixed (he) hc hi ?_ | refine SW.skip ?_ | refine SW.exit ?_ | refine SW.ret ?_ | refine SW.aj rfl ?_ | refine SW.ah rfl ?_));exact End.mk [] (h4:=⟨rfl,rfl⟩)
  ·skip
   refine ref16_Above.enter (by first | rfl | simp [SV.ok,SV.ax]) (by first | rfl | simp [Hp.ok,Ob.ok,SV.ok,SV.ax,aB.ak]) (by simp) ?_;dsimp only [ref16_Above.s,Co.M,Co.G,Co.J,Co.H,Co.F,Co.C,Co.B,Co.K,Co.E,Co.Q,Co.x,Co.Y,Co.U,Co.S];(repeat (first | refine SW.seq ?_ | refine SW.block ?_ | refine SW.g2 [0,1,2,4,5,6,7,8,16] mixed (he) hc hi ?_ | refine SW.skip ?_ | refine SW.exit ?_ | refine SW.ret ?_ | refine SW.aj rfl ?_ | refine SW.ah rfl ?_));exact End.mk [] (h4:=⟨rfl,rfl⟩)
theorem CM (e d:Dt)(L:List Cr)(hL:mE T.at_ (MM.get T.at_ d) L)(ID:L.length<1000000)(k:Nat):aF Tryz.prog ref16_Above.f [ops l,.agg e.cells,.agg d.cells] [] k 0 (.d (.bool (fG T.at_ e d L))) []:=(CL hlen hl h e d L hL ID).sc rfl k
end
end Go.Proofs.YtaelhkkjgfobhaaGreat
