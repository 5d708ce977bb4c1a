/-
 Trees of credentials: the document's chains, those above, all of a cart.
-/
import Derived.Test.YtaelhkkjgfobhaaGreatU6
import Derived.Test.YtaelhkkjgfobhaaGreatUJ
import Derived.Test.YtaelhkkjgfobhaaGreatUB
import Derived.Test.YtaelhkkjgfobhaaGreatUE
import Derived.Test.YtaelhkkjgfobhaaGreatU5
set_option linter.unusedSectionVars false
set_option linter.unusedVariables false
set_option linter.unusedSimpArgs false
namespace Go.Proofs.YtaelhkkjgfobhaaGreat
open Go.Sl Go.Proofs
attribute [local irreducible] SW RW aG SC ai aq
theorem yY {a:MM Dt Cr}{d:Dt}{L:List Cr}{c:Cr}(hg:MM.get a d=some c):gD a d L= .dw [bp (L.map (·.dot)),.d (.int .i64 0)]:=by
 unfold gD MM.has;rw [hg];simp [bp]
theorem Bp {a:MM Dt Cr}{d:Dt}{L:List Cr}(hg:MM.get a d=none):gD a d L= .dw [.d .aK,.d (.int .i64 7)]:=by
 unfold gD MM.has;rw [hg];rfl
section
variable {l:List ag} (hlen:l.length<4611686018427387904) (hl:∀ x,x∈l→x.aQ<256) {T:Tr} (h:j8 l T)
include hlen hl h
theorem Bq {d:Dt}{c:Cr}(hg:MM.get T.at_ d=some c)(k:Nat):aG Tryz.prog ref16_Get.f [ops l,.agg d.cells] [] k 0 (.dw [.agg c.cells,.d (.bool true)]) []:=by
 have:=xl hlen hl d k;rw [(h.get d).2 c hg] at this;exact this
theorem Kw {d:Dt}(hg:MM.get T.at_ d=none)(k:Nat):aG Tryz.prog ref16_Get.f [ops l,.agg d.cells] [] k 0 (.dw [.agg (cM l 10 d).1.cells,.d (.bool false)]) []:=by
 have:=xl hlen hl d k;have e:=(h.get d).1;unfold MM.has at e;rw [hg] at e;rw [e] at this;exact this
set_option maxHeartbeats 4000000 in
theorem Ch (d:Dt)(L:List Cr)(hL:mg T.at_ (MM.get T.at_ d) L)(HY:L.length<1000000):Go.Sl.Pure Tryz.prog ref16_Chain.f [ops l,.agg d.cells] (gD T.at_ d L):=by
 cases hg:MM.get T.at_ d with
 | none=>
  rw [Bp hg];have hr:=Kw hlen hl h hg;refine ref16_Chain.enter (by first | rfl | simp [SV.ok,SV.ay]) (by first | rfl | simp [Hp.ok,Ob.ok,SV.ok,SV.ay,aB.aj]) (by simp) ?_
  dsimp only [ref16_Chain.s,Co.M,Co.G,Co.J,Co.H,Co.N,Co.F,Co.C,Co.Z,Co.B,Co.b8,Co.ax,Co.bC,Co.i6,Co.z8,Co.bF]
  (repeat (first | refine SW.seq ?_ | refine SW.block ?_ | refine SW.g1 [0,1,3,4,5,6,7,8,16,21] mixed af hr ?_ | refine SW.skip ?_ | refine SW.exit ?_ | refine SW.ret ?_ | refine SW.ak rfl ?_ | refine SW.ah rfl ?_))
  exact End.mk [] (h4:=⟨rfl,rfl⟩)
 | some c=>
  rw [yY hg];have hr:=Bq hlen hl h hg;have hc0:L[0]? =some c:=by rw [hg] at hL;exact hL.head
  refine ref16_Chain.enter (by first | rfl | simp [SV.ok,SV.ay]) (by first | rfl | simp [Hp.ok,Ob.ok,SV.ok,SV.ay,aB.aj]) (by simp) ?_
  dsimp only [ref16_Chain.s,Co.M,Co.G,Co.J,Co.H,Co.N,Co.F,Co.C,Co.Z,Co.B,Co.b8,Co.ax,Co.bC,Co.i6,Co.z8,Co.bF];refine SW.seq ?_;refine SW.g1 [0,1,3,4,5,6,7,8,16,21] mixed af hr ?_;refine SW.seq ?_;refine SW.g1 [0,1,3,4,5,6,7,8,16,21] mixed af hr ?_;refine SW.seq (SW.seq ?_);refine SW.g1 [0,1,3,4,5,6,7,8,16,21] mixed af hr ?_;refine SW.ah rfl (SW.skip ?_);refine SW.seq ?_
  (refine SW.bM [0,1,3,4,5,6,7,8,16,21] mixed ?_;(repeat (first | refine RW.lit af (h:= ?_) | refine RW.ro af (h:= ?_) | refine RW.skip (h:= ?_) | refine RW.op af (h:= ?_) | refine RW.di af (h:= ?_) | refine RW.aU (h:= ?_)));refine RW.nil ⟨by kernel_rfl,aq.mk (h:= ?_)⟩)
  refine SW.seq (SW.block ?_);have e0:(L.take 1).map (·.dot)=[d]:=by
   have:L.take 1=[c]:=by
    cases L with
    | nil=>cases hc0
    | cons x M=>simp at hc0;simp [hc0]
   rw [this];simp [h.yL hg]
  refine SW.jN (α:={j:Nat×Cr // L[j.1]? =some j.2}) (fun j=>⟨[(8,.gs 2 (j.1.1+1)),(0,ops l),(6,.ptr 1 0)],[(2,.arr 37 2 (j.1.1+1) ((((L.take (j.1.1+1)).map (·.dot)).flatMap Dt.ds).map .d)),(1,.box 158 j.1.2.cells)],3⟩) (fun j=>L.length - j.1.1) ⟨(0,c),hc0⟩ id (And.intro e0 (And.intro (Dt.lK d) (fun q:Nat→Bool=>Cr.aj c q))) (round:= ?_)
  rintro ⟨⟨j,x⟩,hx⟩;dsimp only at hx ⊢;have hjl:=iN hx
  by_cases hpos:0<x.level
  ·have h1:decide (x.level>0)=true:=decide_eq_true hpos
   obtain ⟨o,p,q,_,_,hp,_⟩:=h.above (h.uA hL x (List.mem_of_getElem? hx)) hpos;have hj2:j+1<L.length:=by
    refine Classical.byContradiction fun hn=> ?_
    have he:j=L.length - 1:=by omega
    have:=(h.Kg hL (x:=x) (by rw [← he];exact hx)).1
    omega
   obtain ⟨y,hy⟩:=br hj2;have hpy:p=y:=by
    have:=(hL.next j x y hx hy).2
    rw [hp] at this;injection this
   subst hpy;have hr2:=Bq hlen hl h hp;have e1:(L.take (j+1+1)).map (·.dot)=(L.take (j+1)).map (·.dot)++[x.par]:=by
    rw [cQ hy,List.map_append];simp [h.yL hp]
   have edt:∀ d:Dt,eS d.cells=some d.ds:=fun _=>rfl
   refine SW.seq (SW.seq ?_);refine SW.g1 [0,1,3,4,5,6,7,8,16,21] mixed (h1) hr2 ?_;refine SW.ak rfl (SW.skip ?_);refine SW.block (SW.seq ?_);refine SW.g1 [0,1,3,4,5,6,7,8,16,21] mixed (edt) hr2 ?_;refine SW.g1 [0,1,3,4,5,6,7,8,16,21] mixed af hr2 ?_;dsimp only;refine ⟨⟨(j+1,p),hy⟩,fun n=>if n=2 then 3 else n,by show L.length - (j+1)<L.length - j;omega,?_⟩
   exact aP.mk (And.intro e1 (And.intro (Dt.lK x.par) af))
  ·have h1:decide (x.level>0)=false:=decide_eq_false hpos
   have hlast:j+1=L.length:=by
    refine Classical.byContradiction fun hn=> ?_
    obtain ⟨y,hy⟩:=br (show j+1<L.length by omega)
    exact hpos (hL.next j x y hx hy).1
   refine SW.seq (SW.seq ?_);refine SW.g0 [0,1,3,4,5,6,7,8,16,21] mixed (h1) ?_;refine SW.ah rfl (SW.exit ?_);rw [hlast,List.take_length];refine SW.seq ?_;refine SW.g0 [0,1,3,4,5,6,7,8,16,21] mixed af ?_;refine SW.freeze 2 ((L.map (·.dot)).flatMap Dt.ds) rfl rfl (SW.ret ?_)
   exact End.mk [] (h4:=⟨by simp [eD,SV.iT],rfl⟩) (h5:=by simp [eD,SV.iT,SV.ok,SV.ay])
theorem wj (d:Dt)(L:List Cr)(hL:mg T.at_ (MM.get T.at_ d) L)(HY:L.length<1000000)(k:Nat):aG Tryz.prog ref16_Chain.f [ops l,.agg d.cells] [] k 0 (gD T.at_ d L) []:=(Ch hlen hl h d L hL HY).sc (by unfold gD;split <;> rfl) k
theorem Ci (e d:Dt)(L:List Cr):fu T.at_ e d L=(!decide (e=d) && decide (e∈L.map (·.dot))):=by
 unfold fu
 congr 1
 rw [Bool.eq_iff_iff,List.any_eq_true,decide_eq_true_eq,List.mem_map];constructor
 ·rintro ⟨x,hx,e⟩;exact ⟨x,hx,by simpa using e⟩
 ·rintro ⟨x,hx,e⟩;exact ⟨x,hx,by simpa using e⟩
theorem Cj (e d:Dt)(L:List Cr)(hL:mg T.at_ (MM.get T.at_ d) L)(HY:L.length<1000000):Go.Sl.Pure Tryz.prog ref16_Above.f [ops l,.agg e.cells,.agg d.cells] (.d (.bool (fu T.at_ e d L))):=by
 have hc:=wj hlen hl h d L hL HY;cases hg:MM.get T.at_ d with
 | none=>
  rw [Bp hg] at hc;have e0:fu T.at_ e d L=false:=by
   rw [hg] at hL;cases hL;unfold fu;simp
  rw [e0];refine ref16_Above.enter (by first | rfl | simp [SV.ok,SV.ay]) (by first | rfl | simp [Hp.ok,Ob.ok,SV.ok,SV.ay,aB.aj]) (by simp) ?_
  dsimp only [ref16_Above.s,Co.M,Co.G,Co.J,Co.H,Co.N,Co.F,Co.C,Co.Z,Co.B,Co.b8,Co.ax,Co.bC,Co.i6,Co.z8,Co.bF]
  (repeat (first | refine SW.seq ?_ | refine SW.block ?_ | refine SW.g1 [0,1,2,4,5,6,7,8,16] mixed af hc ?_ | refine SW.skip ?_ | refine SW.exit ?_ | refine SW.ret ?_ | refine SW.ak rfl ?_ | refine SW.ah rfl ?_))
  exact End.mk [] (h4:=⟨rfl,rfl⟩)
 | some c=>
  rw [yY hg] at hc;rw [Ci hlen hl h];have hD:(L.map (·.dot)).length=L.length:=List.length_map ..
  generalize L.map (·.dot)=D at hc hD
  have hi:=gT D e (by omega)
  rcases he:decide (e=d) with _ | _
  ·skip
   refine ref16_Above.enter (by first | rfl | simp [SV.ok,SV.ay]) (by first | rfl | simp [Hp.ok,Ob.ok,SV.ok,SV.ay,aB.aj]) (by simp) ?_
   dsimp only [ref16_Above.s,Co.M,Co.G,Co.J,Co.H,Co.N,Co.F,Co.C,Co.Z,Co.B,Co.b8,Co.ax,Co.bC,Co.i6,Co.z8,Co.bF]
   (repeat (first | refine SW.seq ?_ | refine SW.block ?_ | refine SW.g2 [0,1,2,4,5,6,7,8,16] mixed (he) hc hi ?_ | refine SW.skip ?_ | refine SW.exit ?_ | refine SW.ret ?_ | refine SW.ak rfl ?_ | refine SW.ah rfl ?_))
   exact End.mk [] (h4:=⟨rfl,rfl⟩)
  ·skip
   refine ref16_Above.enter (by first | rfl | simp [SV.ok,SV.ay]) (by first | rfl | simp [Hp.ok,Ob.ok,SV.ok,SV.ay,aB.aj]) (by simp) ?_
   dsimp only [ref16_Above.s,Co.M,Co.G,Co.J,Co.H,Co.N,Co.F,Co.C,Co.Z,Co.B,Co.b8,Co.ax,Co.bC,Co.i6,Co.z8,Co.bF]
   (repeat (first | refine SW.seq ?_ | refine SW.block ?_ | refine SW.g2 [0,1,2,4,5,6,7,8,16] mixed (he) hc hi ?_ | refine SW.skip ?_ | refine SW.exit ?_ | refine SW.ret ?_ | refine SW.ak rfl ?_ | refine SW.ah rfl ?_))
   exact End.mk [] (h4:=⟨rfl,rfl⟩)
theorem Ck (e d:Dt)(L:List Cr)(hL:mg T.at_ (MM.get T.at_ d) L)(HY:L.length<1000000)(k:Nat):aG Tryz.prog ref16_Above.f [ops l,.agg e.cells,.agg d.cells] [] k 0 (.d (.bool (fu T.at_ e d L))) []:=(Cj hlen hl h e d L hL HY).sc rfl k
end
end Go.Proofs.YtaelhkkjgfobhaaGreat
