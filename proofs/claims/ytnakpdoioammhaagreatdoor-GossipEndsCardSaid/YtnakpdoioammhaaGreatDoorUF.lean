/-
 Sorting places by a function: turned round; nearly sorted ones.
-/
import Derived.Test.YtnakpdoioammhaaGreatDoorUK
import Derived.Test.YtnakpdoioammhaaGreatDoorUE
set_option linter.unusedSectionVars false
set_option linter.unusedVariables false
set_option linter.unusedSimpArgs false
namespace Go.Proofs.YtnakpdoioammhaaGreatDoor
open Go.Sl Go.Proofs
section
attribute [local irreducible] SW RW bB SC ai aa
section
variable {g:Nat} {first:List SV} {H0:Hp} {c:Nat→Nat→Int} {D:Nat→Prop} {n k:Nat}
variable (hc:jV Tryz.prog g first H0 c D) (ha:At H0 n k)
include hc ha
set_option maxHeartbeats 4000000 in
theorem BA {m:Nat}{R:List Nat}(hm:R.length=m)(a b:Nat)(hab:a<b)(hb:b≤m)(hl:m<256):
  SB Tryz.prog slices_reverseRangeCmpFunc_int.f [.gs n m,i64 a,i64 b,gj g first] (aR n m R::H0) k 0 fun r F=>r= .cW []∧∃ R',ek a b R R'∧F=aR n m R'::H0:=by
 have o1:=ha.fo hc
 have hn:=ha.lt
 refine slices_reverseRangeCmpFunc_int.enter (by simp [SV.ok,SV.aF,o1,hn]) (ha.mC m R) (by simp [SV.aF]) ?_
 dsimp only [slices_reverseRangeCmpFunc_int.s,Co.M,Co.G,Co.J,Co.H,Co.N,Co.F,Co.C,Co.Z,Co.B,Co.b8,Co.aJ,Co.b_,Co.i6,Co.z8,Co.cn]
 have w1:=jd (i:=b) (by omega) (by omega)
 refine SW.seq ?_
 refine SW.g0 [0,1,2,8,9,15] mixed U ?_
 refine SW.seq ?_
 refine SW.g0 [0,1,2,8,9,15] mixed (w1) ?_
 refine SW.block ?_
 refine SW.loop (α:={x:Nat×Nat×List Nat // a≤x.1∧x.1≤x.2.1+1∧x.2.1<b∧ek a b R x.2.2})
  (fun x=>⟨[(8,i64 (x.1.1:Nat)),(9,i64 (x.1.2.1:Nat)),(0,.gs n m)],(n,.arr 3 1 m (pc x.1.2.2))::H0,k⟩) (fun x=>x.1.2.1+1 - x.1.1)
  ⟨(a,b - 1,R),Nat.le_refl _,by show a≤b - 1+1;omega,by show b - 1<b;omega,.refl⟩ id ?_ ?_
 ·exact ha.weak hc m R (by simp [bf,List.lookup,SV.aP,SV.aH,SV.aM,SV.ok,SV.aF,o1,hn])
 rintro ⟨⟨i,j,R1⟩,q1,q2,q3,hs⟩
 simp only at q1 q2 q3 hs
 dsimp only
 have nR:R1.length=R.length:=hs.len
 by_cases h:i<j
 ·have h1:=dT (p:=(i:Int)<(j:Nat)) (by omega)
  have w2:=jd (i:=j) (by omega) (by omega)
  have hx:=bg (R:=R1) (i:=i) (by omega)
  have hy:=bg (R:=R1) (i:=j) (by omega)
  have e5:bV (pc R1) i [i64 (ge R1 j:Nat)]=pc (R1.set i (ge R1 j)):=dm _ _ _
  have e6:bV (pc (R1.set i (ge R1 j))) j [i64 (ge R1 i:Nat)]=pc (swp R1 i j):=dm _ _ _
  refine SW.seq (SW.seq ?_)
  refine SW.g0 [0,1,2,8,9,15] mixed (h1) ?_
  refine SW.aC rfl (SW.skip ?_)
  refine SW.block ?_
  refine SW.seq ?_
  refine SW.g0 [0,1,2,8,9,15] mixed (And.intro (aO hx) (And.intro (aO hy) (And.intro (e5) (e6)))) ?_
  refine SW.seq ?_
  refine SW.g0 [0,1,2,8,9,15] mixed U ?_
  refine SW.g0 [0,1,2,8,9,15] mixed (w2) ?_
  refine ⟨⟨(i+1,j - 1,swp R1 i j),by show a≤i+1;omega,by show i+1≤j - 1+1;omega,by show j - 1<b;omega,hs.step (by omega) (by omega) (by omega) (by omega)⟩,id,by show j - 1+1 - (i+1)<j+1 - i;omega,?_⟩
  exact ha.weak hc m (swp R1 i j) (by simp [bf,List.lookup,SV.aP,SV.aH,SV.aM,SV.ok,SV.aF,o1,hn])
 ·have h1:=dF (p:=(i:Int)<(j:Nat)) (by omega)
  refine SW.seq (SW.seq ?_)
  refine SW.g0 [0,1,2,8,9,15] mixed (h1) ?_
  refine SW.ay rfl (SW.exit ?_)
  have fin:∀ env,Go.Sl.Fin k 0 slices_reverseRangeCmpFunc_int.rv (fun r F=>r= .cW []∧∃ R',ek a b R R'∧F=aR n m R'::H0) ⟨env,(n,.arr 3 1 m (pc R1))::H0,k⟩:=fun env=>
   End.mk (aR n m R1::H0) (h3:=fun _ _ h=>h) (h4:=⟨rfl,R1,hs,rfl⟩) (h6:=by simpa using ha.mC m R1)
  exact fin _
theorem BB {m:Nat}{R:List Nat}(hm:R.length=m)(a b:Nat)(hab:a<b)(hb:b≤m)(hl:m<256):
  SC Tryz.prog slices_reverseRangeCmpFunc_int.f [.gs n m,i64 a,i64 b,gj g first] (aR n m R::H0) k 0 fun r F=>r= .cW []∧∃ R',ek a b R R'∧F=aR n m R'::H0:=
 ha.here hc (BA hc ha hm a b hab hb hl) (by have h:=jg ha hc m R;simp only [af] at h;simp [SV.aF,SV.ok,af,h]) fun r F ⟨h1,R',_,h2⟩=>⟨by rw [h1];intro q;rfl,R',h2⟩
set_option maxHeartbeats 4000000 in
theorem DP {m :Nat}{R:List Nat}(hR:Rw D R)(hm:R.length=m)(a b:Nat)(hab:a<b)(hb:b≤m)(hl:m<256)(hU:xQ c R a b):
  SB Tryz.prog slices_partialInsertionSortCmpFunc_int.f [.gs n m,i64 a,i64 b,gj g first] (aR n m R::H0) k 0 fun r F=>∃ ok R',r=bl ok∧ek a b R R'∧(ok=true→gH c R' a b)∧F=aR n m R'::H0:=by
 have o1:=ha.fo hc
 have hn:=ha.lt
 refine slices_partialInsertionSortCmpFunc_int.enter (by simp [SV.ok,SV.aF,o1,hn]) (ha.mC m R) (by simp [SV.aF]) ?_
 dsimp only [slices_partialInsertionSortCmpFunc_int.s,Co.M,Co.G,Co.J,Co.H,Co.N,Co.F,Co.C,Co.Z,Co.B,Co.b8,Co.aJ,Co.b_,Co.i6,Co.z8,Co.cn]
 have fin:∀ (env:List (Nat×SV)) (R1:List Nat) (ok:Bool),env.lookup 8=some (bl ok)→ek a b R R1→(ok=true→gH c R1 a b)→Go.Sl.Fin k 0 slices_partialInsertionSortCmpFunc_int.rv (fun r F=>∃ ok R',r=bl ok∧ek a b R R'∧(ok=true→gH c R' a b)∧F=aR n m R'::H0) ⟨env,(n,.arr 3 1 m (pc R1))::H0,k⟩:=fun env R1 ok he hs hk=>
  End.mk (aR n m R1::H0) (h1:=by show pT _ [.tmp 8]=_;simp only [pT,he];rfl) (h2:=by trivial) (h3:=fun _ _ h=>h) (h4:=⟨ok,R1,rfl,hs,hk,rfl⟩) (h5:=rfl) (h6:=by simpa using ha.mC m R1)
 have wba:=pM (i:=b) (j:=a) (by omega) (by omega)
 refine SW.seq ?_
 refine SW.g0 [0,1,2,3,8,9,10,11,12,16,36,41,45,65,69,84,104,109,124] mixed U ?_
 refine SW.seq ?_
 refine SW.g0 [0,1,2,3,8,9,10,11,12,16,36,41,45,65,69,84,104,109,124] mixed U ?_
 refine SW.gE (α:={R1:List Nat // ek a b R R1}) (fun x=>⟨[(0,.gs n m)],(n,.arr 3 1 m (pc x.1))::H0,k⟩) ?_ ?_
 ·refine SW.seq ?_
  refine SW.g0 [0,1,2,3,8,9,10,11,12,16,36,41,45,65,69,84,104,109,124] mixed U ?_
  refine SW.block ?_
  refine SW.loop (α:={x:Nat×Nat×List Nat // x.1≤5∧a+1≤x.2.1∧x.2.1≤b∧ek a b R x.2.2∧gH c x.2.2 a x.2.1})
   (fun x=>⟨[(10,i64 (x.1.1:Nat)),(9,i64 (x.1.2.1:Nat)),(8,.d (.bool false)),(0,.gs n m),(1,i64 a),(2,i64 b),(3,gj g first)],(n,.arr 3 1 m (pc x.1.2.2))::H0,k⟩) (fun x=>5 - x.1.1)
   ⟨(0,a+1,R),by show 0≤5;omega,Nat.le_refl _,by show a+1≤b;omega,.refl,gH.one (Nat.le_refl _)⟩ id ?_ ?_
  ·exact ha.weak hc m R (by simp [bf,List.lookup,SV.aP,SV.aH,SV.aM,SV.ok,SV.aF,o1,hn])
  rintro ⟨⟨u,i0,R1⟩,q0,q1,q2,hs,r_⟩
  simp only at q0 q1 q2 hs r_
  dsimp only
  have nR:R1.length=R.length:=hs.len
  have hRR:Rw D R1:=hR.s5 hs (by omega)
  by_cases hu:u<5
  case neg=>
   have h1:=dF (p:=(u:Int)<5) (by omega)
   refine SW.seq (SW.seq ?_)
   refine SW.g0 [0,1,2,3,8,9,10,11,12,16,36,41,45,65,69,84,104,109,124] mixed (h1) ?_
   refine SW.ay rfl (SW.exit ?_)
   refine ⟨⟨R1,hs⟩,?_⟩
   exact ha.weak hc m R1 (by simp [bf,List.lookup,SV.aP,SV.aH,SV.aM,SV.ok,SV.aF,o1,hn])
  have h1:=dT (p:=(u:Int)<5) (by omega)
  refine SW.seq (SW.seq ?_)
  refine SW.g0 [0,1,2,3,8,9,10,11,12,16,36,41,45,65,69,84,104,109,124] mixed (h1) ?_
  refine SW.aC rfl (SW.skip ?_)
  refine SW.seq (SW.block ?_)
  refine SW.gE (α:={i:Nat // a+1≤i∧i≤b∧gH c R1 a i∧(i=b∨Lt c R1 i (i - 1))}) (fun x=>⟨[(9,i64 (x.1:Nat)),(10,i64 u),(8,.d (.bool false)),(0,.gs n m),(1,i64 a),(2,i64 b),(3,gj g first)],(n,.arr 3 1 m (pc R1))::H0,k⟩) ?_ ?_
  ·refine SW.block ?_
   refine SW.loop (α:={i:Nat // a+1≤i∧i≤b∧gH c R1 a i})
    (fun x=>⟨[(9,i64 (x.1:Nat)),(10,i64 u),(8,.d (.bool false)),(0,.gs n m),(1,i64 a),(2,i64 b),(3,gj g first)],(n,.arr 3 1 m (pc R1))::H0,k⟩) (fun x=>b - x.1)
    ⟨i0,q1,q2,r_⟩ id ?_ ?_
   ·exact ha.weak hc m R1 (by simp [bf,List.lookup,SV.aP,SV.aH,SV.aM,SV.ok,SV.aF,o1,hn])
   rintro ⟨i,p1,p2,p3⟩
   dsimp only
   by_cases h:i<b
   ·have h2:=dT (p:=(i:Int)<(b:Nat)) (by omega)
    have hx:=bg (R:=R1) (i:=i) (by omega)
    have hy:=bg (R:=R1) (i:=i - 1) (by omega)
    have w2:=jd (i:=i) (by omega) (by omega)
    have cT:=hc.call (ge R1 i) (ge R1 (i - 1)) k (hRR.all _ (cE (by omega))) (hRR.all _ (cE (by omega))) ha.ok
    refine SW.seq (SW.seq ?_)
    rcases hbb:decide (c (ge R1 i) (ge R1 (i - 1))<0) with _ | _
    ·refine SW.g1 [0,1,2,3,8,9,10,11,12,16,36,41,45,65,69,84,104,109,124] mixed (And.intro (h2) (And.intro (w2) (And.intro (aO hx) (And.intro (aO hy) (hbb))))) cT ?_
     refine SW.aC rfl (SW.skip ?_)
     refine SW.block ?_
     refine SW.g0 [0,1,2,3,8,9,10,11,12,16,36,41,45,65,69,84,104,109,124] mixed U ?_
     refine ⟨⟨i+1,by omega,by omega,gH.more hc.tot hRR p3 (by omega) (by omega) (by unfold Lt;simpa using hbb)⟩,id,by show b - (i+1)<b - i;omega,?_⟩
     exact ha.weak hc m R1 (by simp [bf,List.lookup,SV.aP,SV.aH,SV.aM,SV.ok,SV.aF,o1,hn])
    ·refine SW.g1 [0,1,2,3,8,9,10,11,12,16,36,41,45,65,69,84,104,109,124] mixed (And.intro (h2) (And.intro (w2) (And.intro (aO hx) (And.intro (aO hy) (hbb))))) cT ?_
     refine SW.ay rfl (SW.exit ?_)
     refine ⟨⟨i,p1,p2,p3,.inr (by unfold Lt;simpa using hbb)⟩,?_⟩
     exact ha.weak hc m R1 (by simp [bf,List.lookup,SV.aP,SV.aH,SV.aM,SV.ok,SV.aF,o1,hn])
   ·have h2:=dF (p:=(i:Int)<(b:Nat)) (by omega)
    refine SW.seq (SW.seq ?_)
    refine SW.g0 [0,1,2,3,8,9,10,11,12,16,36,41,45,65,69,84,104,109,124] mixed (h2) ?_
    refine SW.ay rfl (SW.exit ?_)
    refine ⟨⟨i,p1,p2,p3,.inl (by omega)⟩,?_⟩
    exact ha.weak hc m R1 (by simp [bf,List.lookup,SV.aP,SV.aH,SV.aM,SV.ok,SV.aF,o1,hn])
  clear r_ q1 q2
  clear i0
  rintro ⟨i,q1,q2,r_,hlt⟩
  dsimp only
  by_cases hib:i=b
  ·have h2:((i:Int) == (b:Nat))=true:=by simp [hib]
   refine SW.seq (SW.seq ?_)
   refine SW.g0 [0,1,2,3,8,9,10,11,12,16,36,41,45,65,69,84,104,109,124] mixed (h2) ?_
   refine SW.aC rfl ?_
   refine SW.seq ?_
   refine SW.g0 [0,1,2,3,8,9,10,11,12,16,36,41,45,65,69,84,104,109,124] mixed U ?_
   refine SW.ret ?_
   exact fin _ R1 true rfl hs fun _=>by rw [← hib];exact r_
  replace hlt:=hlt.resolve_left hib
  have h2:((i:Int) == (b:Nat))=false:=by
   rw [beq_eq_false_iff_ne];omega
  refine SW.seq (SW.seq ?_)
  refine SW.g0 [0,1,2,3,8,9,10,11,12,16,36,41,45,65,69,84,104,109,124] mixed (h2) ?_
  refine SW.ay rfl (SW.skip ?_)
  by_cases h50:b - a<50
  ·have h3:=dT (p:=((b - a:Nat):Int)<50) (by omega)
   refine SW.seq (SW.seq ?_)
   refine SW.g0 [0,1,2,3,8,9,10,11,12,16,36,41,45,65,69,84,104,109,124] mixed (And.intro (wba) (h3)) ?_
   refine SW.aC rfl ?_
   refine SW.seq ?_
   refine SW.g0 [0,1,2,3,8,9,10,11,12,16,36,41,45,65,69,84,104,109,124] mixed U ?_
   refine SW.ret ?_
   exact fin _ R1 false rfl hs fun h=>by cases h
  have h3:=dF (p:=((b - a:Nat):Int)<50) (by omega)
  refine SW.seq (SW.seq ?_)
  refine SW.g0 [0,1,2,3,8,9,10,11,12,16,36,41,45,65,69,84,104,109,124] mixed (And.intro (wba) (h3)) ?_
  refine SW.ay rfl (SW.skip ?_)
  have hx:=bg (R:=R1) (i:=i) (by omega)
  have hy:=bg (R:=R1) (i:=i - 1) (by omega)
  have w2:=jd (i:=i) (by omega) (by omega)
  have e5:bV (pc R1) i [i64 (ge R1 (i - 1):Nat)]=pc (R1.set i (ge R1 (i - 1))):=dm _ _ _
  have e6:bV (pc (R1.set i (ge R1 (i - 1)))) (i - 1) [i64 (ge R1 i:Nat)]=pc (swp R1 i (i - 1)):=dm _ _ _
  have hs2:ek a b R (swp R1 i (i - 1)):=hs.step (by omega) (by omega) (by omega) (by omega)
  have hin:Ins c (swp R1 i (i - 1)) a (i - 1) (i - 1):=Ins.start (gH.same (R:=R1) (fun p q k1 k2 k3=>r_ p q k1 k2 (by omega)) fun z z1 z2=>by
   rw [qS (by omega) (by omega),sg,if_neg (by omega),if_neg (by omega)])
  refine SW.seq ?_
  refine SW.g0 [0,1,2,3,8,9,10,11,12,16,36,41,45,65,69,84,104,109,124] mixed (And.intro (w2) (And.intro (aO hx) (And.intro (aO hy) (And.intro (e5) (e6))))) ?_
  generalize swp R1 i (i - 1)=R2 at hs2 hin
  clear e5 e6 hx hy hlt r_ h2 h3 hRR nR hs
  clear R1
  have pR:R2.length=R.length:=hs2.len
  have wia:=pM (i:=i) (j:=a) (by omega) (by omega)
  have wbi:=pM (i:=b) (j:=i) (by omega) (by omega)
  refine SW.gE (α:={R3:List Nat // ek a b R R3∧gH c R3 a i}) (fun x=>⟨[(9,i64 i),(10,i64 u),(8,.d (.bool false)),(0,.gs n m),(1,i64 a),(2,i64 b),(3,gj g first)],(n,.arr 3 1 m (pc x.1))::H0,k⟩) ?_ ?_
  ·refine SW.seq ?_
   by_cases hia:i - a<2
   ·have h4:=dF (p:=((i - a:Nat):Int)≥2) (by omega)
    refine SW.g0 [0,1,2,3,8,9,10,11,12,16,36,41,45,65,69,84,104,109,124] mixed (And.intro (wia) (h4)) ?_
    refine SW.ay rfl (SW.skip ?_)
    refine ⟨⟨R2,hs2,gH.one (by omega)⟩,?_⟩
    exact ha.weak hc m R2 (by simp [bf,List.lookup,SV.aP,SV.aH,SV.aM,SV.ok,SV.aF,o1,hn])
   ·have h4:=dT (p:=((i - a:Nat):Int)≥2) (by omega)
    refine SW.g0 [0,1,2,3,8,9,10,11,12,16,36,41,45,65,69,84,104,109,124] mixed (And.intro (wia) (h4)) ?_
    refine SW.aC rfl ?_
    refine SW.seq ?_
    refine SW.g0 [0,1,2,3,8,9,10,11,12,16,36,41,45,65,69,84,104,109,124] mixed (w2) ?_
    refine SW.block ?_
    refine SW.loop (α:={x:Nat×List Nat // a≤x.1∧x.1≤i - 1∧ek a b R x.2∧Ins c x.2 a x.1 (i - 1)})
     (fun x=>⟨[(11,i64 (x.1.1:Nat)),(9,i64 i),(10,i64 u),(8,.d (.bool false)),(0,.gs n m),(1,i64 a),(2,i64 b),(3,gj g first)],(n,.arr 3 1 m (pc x.1.2))::H0,k⟩) (fun x=>x.1.1)
     ⟨(i - 1,R2),by show a≤i - 1;omega,Nat.le_refl _,hs2,hin⟩ id ?_ ?_
    ·exact ha.weak hc m R2 (by simp [bf,List.lookup,SV.aP,SV.aH,SV.aM,SV.ok,SV.aF,o1,hn])
    rintro ⟨⟨j,R3⟩,p1,p2,hs3,hin3⟩
    simp only at p1 p2 hs3 hin3
    dsimp only
    have hl3:R3.length=R.length:=hs3.len
    have hR3:Rw D R3:=hR.s5 hs3 (by omega)
    have out:(j=a∨ ¬ Lt c R3 j (j - 1))→gH c R3 a i:=fun hd=>by
     have:=Ins.done hc.tot hR3 hin3 p1 p2 (by omega) hd
     rwa [Nat.sub_add_cancel (by omega)] at this
    by_cases hj:1≤j
    case neg=>
     have h5:=dF (p:=(j:Int)≥1) (by omega)
     refine SW.seq (SW.seq ?_)
     refine SW.g0 [0,1,2,3,8,9,10,11,12,16,36,41,45,65,69,84,104,109,124] mixed (h5) ?_
     refine SW.ay rfl (SW.exit ?_)
     refine ⟨⟨R3,hs3,out (.inl (by omega))⟩,?_⟩
     exact ha.weak hc m R3 (by simp [bf,List.lookup,SV.aP,SV.aH,SV.aM,SV.ok,SV.aF,o1,hn])
    have h5:=dT (p:=(j:Int)≥1) (by omega)
    have hx:=bg (R:=R3) (i:=j) (by omega)
    have hy:=bg (R:=R3) (i:=j - 1) (by omega)
    have w3:=jd (i:=j) (by omega) (by omega)
    have cT:=hc.call (ge R3 j) (ge R3 (j - 1)) k (hR3.all _ (cE (by omega))) (hR3.all _ (cE (by omega))) ha.ok
    have e5:bV (pc R3) j [i64 (ge R3 (j - 1):Nat)]=pc (R3.set j (ge R3 (j - 1))):=dm _ _ _
    have e6:bV (pc (R3.set j (ge R3 (j - 1)))) (j - 1) [i64 (ge R3 j:Nat)]=pc (swp R3 j (j - 1)):=dm _ _ _
    refine SW.seq (SW.seq ?_)
    refine SW.g0 [0,1,2,3,8,9,10,11,12,16,36,41,45,65,69,84,104,109,124] mixed (h5) ?_
    refine SW.aC rfl (SW.skip ?_)
    refine SW.seq (SW.block ?_)
    refine SW.seq (SW.seq ?_)
    rcases hbb:decide (c (ge R3 j) (ge R3 (j - 1))<0) with _ | _
    ·refine SW.g1 [0,1,2,3,8,9,10,11,12,16,36,41,45,65,69,84,104,109,124] mixed (And.intro (w3) (And.intro (aO hx) (And.intro (aO hy) (hbb)))) cT ?_
     refine SW.aC rfl (SW.exit ?_)
     refine ⟨⟨R3,hs3,out (.inr (by unfold Lt;simpa using hbb))⟩,?_⟩
     exact ha.weak hc m R3 (by simp [bf,List.lookup,SV.aP,SV.aH,SV.aM,SV.ok,SV.aF,o1,hn])
    ·refine SW.g1 [0,1,2,3,8,9,10,11,12,16,36,41,45,65,69,84,104,109,124] mixed (And.intro (w3) (And.intro (aO hx) (And.intro (aO hy) (hbb)))) cT ?_
     have hlj:Lt c R3 j (j - 1):=by unfold Lt;simpa using hbb
     have hja:a<j:=by
      rcases Nat.lt_or_ge a j with h | h
      ·exact h
      ·exfalso
       have e:j=a:=by omega
       subst e
       rcases hU.keep hs3 (by omega) with h | h
       ·omega
       ·exact Lt.asym hc.tot hR3 (by omega) (by omega) hlj (h j (Nat.le_refl _) (by omega))
     refine SW.ay rfl (SW.skip ?_)
     refine SW.g0 [0,1,2,3,8,9,10,11,12,16,36,41,45,65,69,84,104,109,124] mixed (And.intro (w3) (And.intro (aO hx) (And.intro (aO hy) (And.intro (e5) (e6))))) ?_
     refine SW.g0 [0,1,2,3,8,9,10,11,12,16,36,41,45,65,69,84,104,109,124] mixed (w3) ?_
     refine ⟨⟨(j - 1,swp R3 j (j - 1)),by show a≤j - 1;omega,by show j - 1≤i - 1;omega,hs3.step (by omega) (by omega) (by omega) (by omega),hin3.next hja p2 (by omega) hlj⟩,id,by show j - 1<j;omega,?_⟩
     exact ha.weak hc m (swp R3 j (j - 1)) (by simp [bf,List.lookup,SV.aP,SV.aH,SV.aM,SV.ok,SV.aF,o1,hn])
  clear hin pR hs2
  clear R2
  rintro ⟨R3,hs3,hsr3⟩
  dsimp only
  have hl3:R3.length=R.length:=hs3.len
  refine SW.seq ?_
  by_cases hbi:b - i<2
  ·have h4:=dF (p:=((b - i:Nat):Int)≥2) (by omega)
   refine SW.g0 [0,1,2,3,8,9,10,11,12,16,36,41,45,65,69,84,104,109,124] mixed (And.intro (wbi) (h4)) ?_
   refine SW.ay rfl (SW.skip ?_)
   refine SW.g0 [0,1,2,3,8,9,10,11,12,16,36,41,45,65,69,84,104,109,124] mixed U ?_
   refine ⟨⟨(u+1,i,R3),by show u+1≤5;omega,q1,q2,hs3,hsr3⟩,id,by show 5 - (u+1)<5 - u;omega,?_⟩
   exact ha.weak hc m R3 (by simp [bf,List.lookup,SV.aP,SV.aH,SV.aM,SV.ok,SV.aF,o1,hn])
  have h4:=dT (p:=((b - i:Nat):Int)≥2) (by omega)
  refine SW.g0 [0,1,2,3,8,9,10,11,12,16,36,41,45,65,69,84,104,109,124] mixed (And.intro (wbi) (h4)) ?_
  refine SW.aC rfl ?_
  refine SW.seq ?_
  refine SW.g0 [0,1,2,3,8,9,10,11,12,16,36,41,45,65,69,84,104,109,124] mixed U ?_
  refine SW.block ?_
  refine SW.loop (α:={x:Nat×List Nat // i+1≤x.1∧x.1≤b∧ek i b R3 x.2})
   (fun x=>⟨[(12,i64 (x.1.1:Nat)),(9,i64 i),(10,i64 u),(8,.d (.bool false)),(0,.gs n m),(1,i64 a),(2,i64 b),(3,gj g first)],(n,.arr 3 1 m (pc x.1.2))::H0,k⟩) (fun x=>b - x.1.1)
   ⟨(i+1,R3),Nat.le_refl _,by show i+1≤b;omega,.refl⟩ id ?_ ?_
  ·exact ha.weak hc m R3 (by simp [bf,List.lookup,SV.aP,SV.aH,SV.aM,SV.ok,SV.aF,o1,hn])
  rintro ⟨⟨j,R4⟩,p1,p2,hs4⟩
  simp only at p1 p2 hs4
  dsimp only
  have hl4:R4.length=R3.length:=hs4.len
  have hs5:ek a b R R4:=hs3.trans (hs4.mono (by omega) (Nat.le_refl _))
  have hR4:Rw D R4:=hR.s5 hs5 (by omega)
  have hsr4:gH c R4 a i:=hsr3.same fun z z1 z2=>hs4.out (by omega) (.inl z2)
  by_cases hj:j<b
  case neg=>
   have h5:=dF (p:=(j:Int)<(b:Nat)) (by omega)
   refine SW.seq (SW.seq ?_)
   refine SW.g0 [0,1,2,3,8,9,10,11,12,16,36,41,45,65,69,84,104,109,124] mixed (h5) ?_
   refine SW.ay rfl (SW.exit ?_)
   refine SW.g0 [0,1,2,3,8,9,10,11,12,16,36,41,45,65,69,84,104,109,124] mixed U ?_
   refine ⟨⟨(u+1,i,R4),by show u+1≤5;omega,q1,q2,hs5,hsr4⟩,id,by show 5 - (u+1)<5 - u;omega,?_⟩
   exact ha.weak hc m R4 (by simp [bf,List.lookup,SV.aP,SV.aH,SV.aM,SV.ok,SV.aF,o1,hn])
  have h5:=dT (p:=(j:Int)<(b:Nat)) (by omega)
  have hx:=bg (R:=R4) (i:=j) (by omega)
  have hy:=bg (R:=R4) (i:=j - 1) (by omega)
  have w3:=jd (i:=j) (by omega) (by omega)
  have cT:=hc.call (ge R4 j) (ge R4 (j - 1)) k (hR4.all _ (cE (by omega))) (hR4.all _ (cE (by omega))) ha.ok
  have e5:bV (pc R4) j [i64 (ge R4 (j - 1):Nat)]=pc (R4.set j (ge R4 (j - 1))):=dm _ _ _
  have e6:bV (pc (R4.set j (ge R4 (j - 1)))) (j - 1) [i64 (ge R4 j:Nat)]=pc (swp R4 j (j - 1)):=dm _ _ _
  refine SW.seq (SW.seq ?_)
  refine SW.g0 [0,1,2,3,8,9,10,11,12,16,36,41,45,65,69,84,104,109,124] mixed (h5) ?_
  refine SW.aC rfl (SW.skip ?_)
  refine SW.seq (SW.block ?_)
  refine SW.seq (SW.seq ?_)
  rcases hbb:decide (c (ge R4 j) (ge R4 (j - 1))<0) with _ | _
  ·refine SW.g1 [0,1,2,3,8,9,10,11,12,16,36,41,45,65,69,84,104,109,124] mixed (And.intro (w3) (And.intro (aO hx) (And.intro (aO hy) (hbb)))) cT ?_
   refine SW.aC rfl (SW.exit ?_)
   refine SW.g0 [0,1,2,3,8,9,10,11,12,16,36,41,45,65,69,84,104,109,124] mixed U ?_
   refine ⟨⟨(u+1,i,R4),by show u+1≤5;omega,q1,q2,hs5,hsr4⟩,id,by show 5 - (u+1)<5 - u;omega,?_⟩
   exact ha.weak hc m R4 (by simp [bf,List.lookup,SV.aP,SV.aH,SV.aM,SV.ok,SV.aF,o1,hn])
  ·refine SW.g1 [0,1,2,3,8,9,10,11,12,16,36,41,45,65,69,84,104,109,124] mixed (And.intro (w3) (And.intro (aO hx) (And.intro (aO hy) (hbb)))) cT ?_
   refine SW.ay rfl (SW.skip ?_)
   refine SW.g0 [0,1,2,3,8,9,10,11,12,16,36,41,45,65,69,84,104,109,124] mixed (And.intro (w3) (And.intro (aO hx) (And.intro (aO hy) (And.intro (e5) (e6))))) ?_
   refine SW.g0 [0,1,2,3,8,9,10,11,12,16,36,41,45,65,69,84,104,109,124] mixed U ?_
   refine ⟨⟨(j+1,swp R4 j (j - 1)),by show i+1≤j+1;omega,by show j+1≤b;omega,hs4.step (by omega) (by omega) (by omega) (by omega)⟩,id,by show b - (j+1)<b - j;omega,?_⟩
   exact ha.weak hc m (swp R4 j (j - 1)) (by simp [bf,List.lookup,SV.aP,SV.aH,SV.aM,SV.ok,SV.aF,o1,hn])
 rintro ⟨R1,hs⟩
 dsimp only
 refine SW.seq ?_
 refine SW.g0 [0,1,2,3,8,9,10,11,12,16,36,41,45,65,69,84,104,109,124] mixed U ?_
 refine SW.ret ?_
 exact fin _ R1 false rfl hs fun h=>by cases h
theorem DQ {m:Nat}{R:List Nat}(hR:Rw D R)(hm:R.length=m)(a b:Nat)(hab:a<b)(hb:b≤m)(hl:m<256)(hU:xQ c R a b):
  SC Tryz.prog slices_partialInsertionSortCmpFunc_int.f [.gs n m,i64 a,i64 b,gj g first] (aR n m R::H0) k 0 fun r F=>∃ ok R',r=bl ok∧ek a b R R'∧(ok=true→gH c R' a b)∧F=aR n m R'::H0:=
 ha.here hc (DP hc ha hR hm a b hab hb hl hU) (by have h:=jg ha hc m R;simp only [af] at h;simp [SV.aF,SV.ok,af,h]) fun r F ⟨ok,R',h1,_,_,h2⟩=>⟨by rw [h1];intro q;rfl,R',h2⟩
end
end
section
attribute [local irreducible] SW RW bB SC ai aa
def EW:List Nat:=[0,1,2,2,3,3,3,3,4,4,4,4,4,4,4,4,5,5,5,5,5,5,5,5,5,5,5,5,5,5,5,5,6,6,6,6,6,6,6,6,6,6,6,6,6,6,6,6,6,6,6,6,6,6,6,6,6,6,6,6,6,6,6,6,7,7,7,7,7,7,7,7,7,7,7,7,7,7,7,7,7,7,7,7,7,7,7,7,7,7,7,7,7,7,7,7,7,7,7,7,7,7,7,7,7,7,7,7,7,7,7,7,7,7,7,7,7,7,7,7,7,7,7,7,7,7,7,7,8,8,8,8,8,8,8,8,8,8,8,8,8,8,8,8,8,8,8,8,8,8,8,8,8,8,8,8,8,8,8,8,8,8,8,8,8,8,8,8,8,8,8,8,8,8,8,8,8,8,8,8,8,8,8,8,8,8,8,8,8,8,8,8,8,8,8,8,8,8,8,8,8,8,8,8,8,8,8,8,8,8,8,8,8,8,8,8,8,8,8,8,8,8,8,8,8,8,8,8,8,8,8,8,8,8,8,8,8,8,8,8,8,8,8,8,8,8,8,8,8,8,8,8,8,8,8,8]
theorem FR:[0,1,2,2,3,3,3,3,4,4,4,4,4,4,4,4,5,5,5,5,5,5,5,5,5,5,5,5,5,5,5,5,6,6,6,6,6,6,6,6,6,6,6,6,6,6,6,6,6,6,6,6,6,6,6,6,6,6,6,6,6,6,6,6,7,7,7,7,7,7,7,7,7,7,7,7,7,7,7,7,7,7,7,7,7,7,7,7,7,7,7,7,7,7,7,7,7,7,7,7,7,7,7,7,7,7,7,7,7,7,7,7,7,7,7,7,7,7,7,7,7,7,7,7,7,7,7,7,8,8,8,8,8,8,8,8,8,8,8,8,8,8,8,8,8,8,8,8,8,8,8,8,8,8,8,8,8,8,8,8,8,8,8,8,8,8,8,8,8,8,8,8,8,8,8,8,8,8,8,8,8,8,8,8,8,8,8,8,8,8,8,8,8,8,8,8,8,8,8,8,8,8,8,8,8,8,8,8,8,8,8,8,8,8,8,8,8,8,8,8,8,8,8,8,8,8,8,8,8,8,8,8,8,8,8,8,8,8,8,8,8,8,8,8,8,8,8,8,8,8,8,8,8,8,8,8]=EW:=rfl
theorem DR:EW.length=256:=by decide +kernel
def pN (x:Nat):Nat:=EW.getD x 0
theorem xZ {x:Nat}(h:x<256):pN x≤8:=by
 have:∀ y,y<256→EW.getD y 0≤8:=by decide +kernel
 exact this x h
theorem BC {x:Nat}(h0:0<x)(h:x<256):x<2 ^ pN x∧2 ^ pN x≤2*x:=by
 have:∀ y,y<256→0<y→y<2 ^ EW.getD y 0∧2 ^ EW.getD y 0≤2*y:=by decide +kernel
 exact this x h h0
attribute [local irreducible] EW
theorem FT (z:Int)(M:Nat)(hM:M<4294967296):∃ o:Nat,o≤M∧bits .and .u64 z (M:Int)=(o:Int):=by
 have h2:(BitVec.ofInt 64 (M:Int)).toNat=M:=by
  rw [BitVec.toNat_ofInt];omega
 have h1:(BitVec.ofInt 64 z &&& BitVec.ofInt 64 (M:Int)).toNat≤M:=by
  rw [BitVec.toNat_and,h2];exact Nat.and_le_right
 refine ⟨_,h1,?_⟩
 show IntKind.u64.wrap ((BitVec.ofInt 64 z &&& BitVec.ofInt 64 (M:Int)).toNat:Int)=_
 exact wrap_u64 _ (by omega)
theorem BD {e:Nat}(h:e≤8):IntKind.u64.wrap (1*2 ^ e)=((2 ^ e:Nat):Int):=by
 match e,h with
 | 0,_ | 1,_ | 2,_ | 3,_ | 4,_ | 5,_ | 6,_ | 7,_ | 8,_=>decide
set_option maxRecDepth 100000 in
set_option maxHeartbeats 4000000 in
theorem BE {x:Nat}(h:x<256):Go.Sl.Pure Tryz.prog math_bits_Len64.f [.d (.int .u64 (x:Int))] (i64 (pN x:Nat)):=by
 refine math_bits_Len64.enter (by first | rfl | simp [SV.ok,SV.aF]) (by first | rfl | simp [Hp.ok,Ob.ok,SV.ok,SV.aF,ag.an]) (by simp) ?_
 dsimp only [math_bits_Len64.s,Co.M,Co.G,Co.J,Co.H,Co.N,Co.F,Co.C,Co.Z,Co.B,Co.b8,Co.aJ,Co.b_,Co.i6,Co.z8,Co.cn]
 simp only [FR]
 have hb:=xZ h
 have h1:=dF (p:=(x:Int)≥4294967296) (by omega)
 have h2:=dF (p:=(x:Int)≥65536) (by omega)
 have h3:=dF (p:=(x:Int)≥256) (by omega)
 have htl:=DR
 have hg:EW.getD x 0=pN x:=rfl
 refine SW.seq ?_
 refine SW.g0 [0,2,4,8,14] mixed U ?_
 refine SW.seq (SW.seq ?_)
 refine SW.g0 [0,2,4,8,14] mixed (h1) ?_
 refine SW.ay rfl (SW.skip ?_)
 refine SW.seq (SW.seq ?_)
 refine SW.g0 [0,2,4,8,14] mixed (h2) ?_
 refine SW.ay rfl (SW.skip ?_)
 refine SW.seq (SW.seq ?_)
 refine SW.g0 [0,2,4,8,14] mixed (h3) ?_
 refine SW.ay rfl (SW.skip ?_)
 refine SW.seq ?_
 refine SW.g0 [0,2,4,8,14] mixed (hg) ?_
 refine SW.ret ?_
 exact End.mk [] (h4:=⟨by simp [gI],rfl⟩)
theorem vv {x:Nat}(h:x<256)(k:Nat):bB Tryz.prog math_bits_Len64.f [.d (.int .u64 (x:Int))] [] k 0 (i64 (pN x:Nat)) []:=(BE h).sc rfl k
theorem FU {x:Nat}(h:x<256):Go.Sl.Pure Tryz.prog math_bits_Len.f [.d (.int .u64 (x:Int))] (i64 (pN x:Nat)):=by
 refine math_bits_Len.enter (by first | rfl | simp [SV.ok,SV.aF]) (by first | rfl | simp [Hp.ok,Ob.ok,SV.ok,SV.aF,ag.an]) (by simp) ?_
 dsimp only [math_bits_Len.s,Co.M,Co.G,Co.J,Co.H,Co.N,Co.F,Co.C,Co.Z,Co.B,Co.b8,Co.aJ,Co.b_,Co.i6,Co.z8,Co.cn]
 refine SW.seq ?_
 (refine SW.au [0,2] mixed ?_;(repeat (first | refine RW.ro U (h:= ?_) | refine RW.skip (h:= ?_) | refine RW.op U (h:= ?_) | refine RW.aL U (h:= ?_) | refine RW.aj (h:= ?_) | (refine RW.aG (h:= ?_);(first | refine ai.mk U (hc:=vv (by first | assumption | omega) _) (h:= ?_)))));refine RW.nil ⟨by kernel_rfl,aa.mk (h:= ?_)⟩)
 refine SW.seq (SW.ay rfl (SW.skip ?_))
 refine SW.seq ?_
 (refine SW.au [0,2] mixed ?_;(repeat (first | refine RW.ro U (h:= ?_) | refine RW.skip (h:= ?_) | refine RW.op U (h:= ?_) | refine RW.aL U (h:= ?_) | refine RW.aj (h:= ?_) | (refine RW.aG (h:= ?_);(first | refine ai.mk U (hc:=vv (by first | assumption | omega) _) (h:= ?_)))));refine RW.nil ⟨by kernel_rfl,aa.mk (h:= ?_)⟩)
 refine SW.ret ?_
 exact End.mk [] (h4:=⟨rfl,rfl⟩)
theorem wU {x:Nat}(h:x<256)(k:Nat):bB Tryz.prog math_bits_Len.f [.d (.int .u64 (x:Int))] [] k 0 (i64 (pN x:Nat)) []:=(FU h).sc rfl k
theorem DS {x:Nat}(h:x<256):Go.Sl.Pure Tryz.prog slices_nextPowerOfTwo.f [i64 x] (.d (.int .u64 ((2 ^ pN x:Nat):Int))):=by
 have hb:=xZ h
 have hp:=BD hb
 have hbit:IntKind.u64.bits=64:=rfl
 have w1:IntKind.u64.wrap (x:Int)=(x:Int):=wrap_u64 _ (by omega)
 refine slices_nextPowerOfTwo.enter (by first | rfl | simp [SV.ok,SV.aF]) (by first | rfl | simp [Hp.ok,Ob.ok,SV.ok,SV.aF,ag.an]) (by simp) ?_
 dsimp only [slices_nextPowerOfTwo.s,Co.M,Co.G,Co.J,Co.H,Co.N,Co.F,Co.C,Co.Z,Co.B,Co.b8,Co.aJ,Co.b_,Co.i6,Co.z8,Co.cn]
 refine SW.seq ?_
 refine SW.g1 [0,2] mixed U (wU h) ?_
 refine SW.seq ?_
 refine SW.g1 [0,2] mixed (And.intro (w1) (hp)) (wU h) ?_
 refine SW.ret ?_
 exact End.mk [] (h4:=⟨rfl,rfl⟩)
theorem DT {x:Nat}(h:x<256)(k:Nat):bB Tryz.prog slices_nextPowerOfTwo.f [i64 x] [] k 0 (.d (.int .u64 ((2 ^ pN x:Nat):Int))) []:=(DS h).sc rfl k
abbrev xb (w:Nat)(z:Int):Nat×Ob:=(w,.box 149 [.d (.int .u64 z)])
set_option maxHeartbeats 4000000 in
theorem BF (w k:Nat)(hw:w<k)(z:Int):SB Tryz.prog slices_xorshift_Next.f [.ptr w 0] [xb w z] k 0 fun r F=>∃ z',r= .d (.int .u64 z')∧F=[xb w z']:=by
 refine slices_xorshift_Next.enter (by simp [SV.ok,SV.aF,hw]) (by simp [Hp.ok,Ob.ok,SV.aF,SV.ok,hw]) (by simp [SV.aF]) ?_
 dsimp only [slices_xorshift_Next.s,Co.M,Co.G,Co.J,Co.H,Co.N,Co.F,Co.C,Co.Z,Co.B,Co.b8,Co.aJ,Co.b_,Co.i6,Co.z8,Co.cn]
 have xs1:∀ a b:SV,bV [a] 0 [b]=[b]:=fun _ _=>rfl
 have hbit:IntKind.u64.bits=64:=rfl
 refine SW.seq ?_
 refine SW.g0 [0,2] mixed U ?_
 refine SW.seq ?_
 refine SW.g0 [0,2] mixed (xs1) ?_
 generalize bits BinOp.xor IntKind.u64 z _=z1
 refine SW.seq ?_
 refine SW.g0 [0,2] mixed (xs1) ?_
 generalize bits BinOp.xor IntKind.u64 z1 _=z2
 refine SW.seq ?_
 refine SW.g0 [0,2] mixed (xs1) ?_
 generalize bits BinOp.xor IntKind.u64 z2 _=z3
 refine SW.seq ?_
 refine SW.g0 [0,2] mixed U ?_
 refine SW.ret ?_
 exact End.mk [xb w z3] (h3:=fun _ _ h=>h) (h4:=⟨z3,rfl,rfl⟩) (h6:=by simp [Hp.ok,Ob.ok,SV.aF,SV.ok,hw])
theorem BG (w k:Nat)(hw:w<k)(z:Int):SC Tryz.prog slices_xorshift_Next.f [.ptr w 0] [xb w z] k 0 fun r F=>∃ z',r= .d (.int .u64 z')∧F=[xb w z']:=
 (BF w k hw z).here (fun i=>i == w) (fun i hi=>by simp at hi;simp [hi,af]) (by simp [SV.aF,SV.ok]) (by simp [Hp.ok,Ob.ok,SV.aF,SV.ok]) (by
  rintro r F ⟨z',rfl,rfl⟩ _ _
  exact ⟨rfl,by simp [Hp.ok,Ob.ok,SV.aF,SV.ok]⟩)
section
variable {g:Nat} {first:List SV} {H0:Hp} {c:Nat→Nat→Int} {D:Nat→Prop} {n k:Nat}
variable (hc:jV Tryz.prog g first H0 c D) (ha:At H0 n k)
include hc ha
set_option maxHeartbeats 4000000 in
theorem BH {m:Nat}{R:List Nat}(hR:Rw D R)(hm:R.length=m)(a b:Nat)(hab:a+12<b)(hb:b≤m)(hl:m<256):
  SB Tryz.prog slices_choosePivotCmpFunc_int.f [.gs n m,i64 a,i64 b,gj g first] (aR n m R::H0) k 0 fun r F=>∃ p h,r= .cW [i64 (p:Nat),i64 (h:Nat)]∧a≤p∧p<b∧F=aR n m R::H0:=by
 have o1:=ha.fo hc
 have hn:=ha.lt
 refine slices_choosePivotCmpFunc_int.enter (by simp [SV.ok,SV.aF,o1,hn]) (ha.mC m R) (by simp [SV.aF]) ?_
 dsimp only [slices_choosePivotCmpFunc_int.s,Co.M,Co.G,Co.J,Co.H,Co.N,Co.F,Co.C,Co.Z,Co.B,Co.b8,Co.aJ,Co.b_,Co.i6,Co.z8,Co.cn]
 have w1:=pM (i:=b) (j:=a) (by omega) (by omega)
 obtain ⟨l,pR⟩:∃ l,l=b - a:=⟨_,rfl⟩
 rw [← pR] at w1
 have w2:IntKind.i64.wrap ((l:Int).tdiv 4)=((l / 4:Nat):Int):=by
  show IntKind.i64.wrap ((l / 4:Nat):Int)=_
  exact wrap_i64 _ (by omega)
 have w3:IntKind.i64.wrap (((l / 4:Nat):Int)*1)=((l / 4:Nat):Int):=by
  rw [show ((l / 4:Nat):Int)*1=((l / 4:Nat):Int) by omega];exact wrap_i64 _ (by omega)
 have w4:IntKind.i64.wrap (((l / 4:Nat):Int)*2)=((l / 4*2:Nat):Int):=by
  rw [show ((l / 4:Nat):Int)*2=((l / 4*2:Nat):Int) by omega];exact wrap_i64 _ (by omega)
 have w5:IntKind.i64.wrap (((l / 4:Nat):Int)*3)=((l / 4*3:Nat):Int):=by
  rw [show ((l / 4:Nat):Int)*3=((l / 4*3:Nat):Int) by omega];exact wrap_i64 _ (by omega)
 have hno:lk H0 k=none:=Hp.out ha.ok (Nat.le_refl _)
 have hnk:k≠n:=by omega
 have fk:=dY hnk
 have ha1:At H0 n (k+1):=⟨ha.no,by omega,Hp.fG (by omega) ha.ok⟩
 have fin:∀ (env:List (Nat×SV)) (p h s:Nat),env.lookup 8=some (i64 (p:Nat))→env.lookup 9=some (i64 (h:Nat))→a≤p→p<b→Go.Sl.Fin k 0 slices_choosePivotCmpFunc_int.rv (fun r F=>∃ p h,r= .cW [i64 (p:Nat),i64 (h:Nat)]∧a≤p∧p<b∧F=aR n m R::H0) ⟨env,aR n m R::bx k s::H0,k+1⟩:=fun env p h s e8 e9 q1 q2=>
  End.mk (aR n m R::H0) (h1:=by show pT _ [.tmp 8,.tmp 9]=_;simp only [pT,e8,e9];rfl) (h2:=by trivial) (h3:=fun z ob hz=>by
   show lk (aR n m R::bx k s::H0) z=_
   rw [af] at hz ⊢
   split
   ·rename_i e;rw [if_pos e] at hz;exact hz
   ·rename_i e
    rw [if_neg e] at hz
    rw [af,if_neg (fun e2=>by rw [e2,hno] at hz;cases hz)]
    exact hz) (h4:=⟨p,h,rfl,q1,q2,rfl⟩) (h5:=rfl) (h6:=by simpa using ha.mC m R) (h7:=by simp)
 have hwk:∀ env gp,bf id (k+1) env gp→bk k ⟨env,(k,.box 3 [i64 0])::(n,.arr 3 1 m (pc R))::H0,k+1⟩ ⟨gp,aR n m R::bx k 0::H0,k+1⟩ id:=fun env gp he=>
  bk.same (Nat.le_succ k) he ((ha1.box hno hnk (Nat.lt_succ_self k) 0).mC m R) fun x hx=>by
   rcases List.mem_cons.1 hx with rfl | hx
   ·show lk _ n=_
    rw [af,if_neg (fun e=>hnk e.symm),af,if_pos rfl]
   rcases List.mem_cons.1 hx with rfl | hx
   ·show lk _ k=_
    rw [af,if_pos rfl];rfl
   ·have h1:=fu hc.nd x hx
    rw [af,if_neg (fun e=>by rw [e,hno] at h1;cases h1),af,if_neg (fun e=>by rw [e,ha.no] at h1;cases h1)]
    exact h1
 have hbw:∀ (s:Nat) env gp kk,bf id (k+1) env gp→bk k ⟨env,aR n m R::bx k s::H0,kk⟩ ⟨gp,aR n m R::bx k s::H0,k+1⟩ id:=fun s env gp kk he=>
  bk.same (Nat.le_succ k) he ((ha1.box hno hnk (Nat.lt_succ_self k) s).mC m R) (fu ((ha1.box hno hnk (Nat.lt_succ_self k) s).nd (hc.box hno s) m R))
 have o1k:=ha1.fo hc
 have hn2:n<k+1:=by omega
 refine SW.seq ?_
 refine SW.g0 [0,1,2,3,8,9,10,11,12,13,14,34,36,55,57,60] mixed U ?_
 refine SW.seq ?_
 refine SW.g0 [0,1,2,3,8,9,10,11,12,13,14,34,36,55,57,60] mixed (w1) ?_
 have hno2:List.lookup k H0=none:=hno
 refine SW.seq ?_
 refine SW.g0 [0,1,2,3,8,9,10,11,12,13,14,34,36,55,57,60] mixed (And.intro (fk) (hno2)) ?_
 refine SW.weak id (hwk _ [(11,.ptr k 0),(10,i64 (l:Nat)),(0,.gs n m),(1,i64 a),(3,gj g first)] ?_) ?_
 ·simp [bf,List.lookup,SV.aP,SV.aH,SV.aM,SV.ok,SV.aF,o1k,hn2]
 refine SW.seq ?_
 refine SW.g0 [0,1,2,3,8,9,10,11,12,13,14,34,36,55,57,60] mixed (And.intro (w2) (w3)) ?_
 refine SW.seq ?_
 refine SW.g0 [0,1,2,3,8,9,10,11,12,13,14,34,36,55,57,60] mixed (And.intro (w2) (w4)) ?_
 refine SW.seq ?_
 refine SW.g0 [0,1,2,3,8,9,10,11,12,13,14,34,36,55,57,60] mixed (And.intro (w2) (w5)) ?_
 have h8:=dT (p:=(l:Int)≥8) (by omega)
 refine SW.gE (α:={x:Nat×Nat // a≤x.1∧x.1<b∧x.2≤12}) (fun x=>⟨[(13,i64 (x.1.1:Nat)),(11,.ptr k 0)],aR n m R::bx k x.1.2::H0,k+1⟩) ?_ ?_
 ·refine SW.seq ?_
  refine SW.g0 [0,1,2,3,8,9,10,11,12,13,14,34,36,55,57,60] mixed (h8) ?_
  refine SW.aC rfl ?_
  refine SW.gE (α:={x:Nat×Nat×Nat×Nat // a≤x.1∧x.1<b∧a≤x.2.1∧x.2.1<b∧a≤x.2.2.1∧x.2.2.1<b∧x.2.2.2≤9}) (fun x=>⟨[(12,i64 (x.1.1:Nat)),(13,i64 (x.1.2.1:Nat)),(14,i64 (x.1.2.2.1:Nat)),(11,.ptr k 0),(0,.gs n m),(3,gj g first)],aR n m R::bx k x.1.2.2.2::H0,k+1⟩) ?_ ?_
  ·refine SW.seq ?_
   by_cases h50:50≤l
   ·have h5:=dT (p:=(l:Int)≥50) (by omega)
    refine SW.g0 [0,1,2,3,8,9,10,11,12,13,14,34,36,55,57,60] mixed (h5) ?_
    refine SW.aC rfl ?_
    refine SW.seq (SW.lp ?_)
    (repeat (first | refine aK.op U (h:= ?_) | refine aK.aL U (h:= ?_) | refine aK.skip (h:= ?_)))
    refine aK.aG (oF hc ha1 hno hnk (Nat.lt_succ_self k) hR hm hl (a+l / 4) 0 (by omega) (by omega) (by omega)) (fun _ _ h=>h) (h:= ?_)
    rintro _ _ ⟨i,s1,rfl,hi,hs1,rfl⟩
    rw [vu hc ha1 hno hnk]
    (repeat (first | refine aK.op U (h:= ?_) | refine aK.aL U (h:= ?_) | refine aK.skip (h:= ?_)))
    refine aK.nil ?_
    refine SW.seq (SW.lp ?_)
    (repeat (first | refine aK.op U (h:= ?_) | refine aK.aL U (h:= ?_) | refine aK.skip (h:= ?_)))
    refine aK.aG (oF hc ha1 hno hnk (Nat.lt_succ_self k) hR hm hl (a+l / 4*2) s1 (by omega) (by omega) (by omega)) (fun _ _ h=>h) (h:= ?_)
    rintro _ _ ⟨j,s2,rfl,hj,hs2,rfl⟩
    rw [vu hc ha1 hno hnk]
    (repeat (first | refine aK.op U (h:= ?_) | refine aK.aL U (h:= ?_) | refine aK.skip (h:= ?_)))
    refine aK.nil ?_
    refine SW.lp ?_
    (repeat (first | refine aK.op U (h:= ?_) | refine aK.aL U (h:= ?_) | refine aK.skip (h:= ?_)))
    refine aK.aG (oF hc ha1 hno hnk (Nat.lt_succ_self k) hR hm hl (a+l / 4*3) s2 (by omega) (by omega) (by omega)) (fun _ _ h=>h) (h:= ?_)
    rintro _ _ ⟨d,s3,rfl,hd,hs3,rfl⟩
    rw [vu hc ha1 hno hnk]
    (repeat (first | refine aK.op U (h:= ?_) | refine aK.aL U (h:= ?_) | refine aK.skip (h:= ?_)))
    refine aK.nil ?_
    refine ⟨⟨(i,j,d,s3),by show a≤i;omega,by show i<b;omega,by show a≤j;omega,by show j<b;omega,by show a≤d;omega,by show d<b;omega,by show s3≤9;omega⟩,?_⟩
    exact hbw s3 _ _ _ (by simp [bf,List.lookup,SV.aP,SV.aH,SV.aM,SV.ok,SV.aF,o1k,hn2])
   ·have h5:=dF (p:=(l:Int)≥50) (by omega)
    refine SW.g0 [0,1,2,3,8,9,10,11,12,13,14,34,36,55,57,60] mixed (h5) ?_
    refine SW.ay rfl (SW.skip ?_)
    refine ⟨⟨(a+l / 4,a+l / 4*2,a+l / 4*3,0),by show a≤a+l / 4;omega,by show a+l / 4<b;omega,by show a≤a+l / 4*2;omega,by show a+l / 4*2<b;omega,by show a≤a+l / 4*3;omega,by show a+l / 4*3<b;omega,by show 0≤9;omega⟩,?_⟩
    exact hbw 0 _ _ _ (by simp [bf,List.lookup,SV.aP,SV.aH,SV.aM,SV.ok,SV.aF,o1k,hn2])
  rintro ⟨⟨i,j,d,s⟩,q1,q2,q3,q4,q5,q6,q7⟩
  simp only at q1 q2 q3 q4 q5 q6 q7
  dsimp only
  refine SW.lp ?_
  (repeat (first | refine aK.op U (h:= ?_) | refine aK.aL U (h:= ?_) | refine aK.skip (h:= ?_)))
  refine aK.aG (th hc ha1 hno hnk (Nat.lt_succ_self k) hR hm i j d s (by omega) (by omega) (by omega) (by omega)) (fun _ _ h=>h) (h:= ?_)
  rintro _ _ ⟨p,s1,rfl,hp,hs1,rfl⟩
  rw [vu hc ha1 hno hnk]
  (repeat (first | refine aK.op U (h:= ?_) | refine aK.aL U (h:= ?_) | refine aK.skip (h:= ?_)))
  refine aK.nil ?_
  refine ⟨⟨(p,s1),by show a≤p;omega,by show p<b;omega,by show s1≤12;omega⟩,?_⟩
  exact hbw s1 _ _ _ (by simp [bf,List.lookup,SV.aP,SV.aH,SV.aM,SV.ok,SV.aF,o1k,hn2])
 rintro ⟨⟨p,s⟩,q1,q2,q3⟩
 simp only at q1 q2 q3
 dsimp only
 refine SW.seq ?_
 refine SW.g0 [0,1,2,3,8,9,10,11,12,13,14,34,36,55,57,60] mixed (fk) ?_
 refine SW.block ?_
 refine SW.seq ?_
 by_cases h0:s=0
 ·have e0:((s:Int) == 0)=true:=by simp [h0]
  refine SW.g0 [0,1,2,3,8,9,10,11,12,13,14,34,36,55,57,60] mixed (e0) ?_
  refine SW.aC rfl ?_
  refine SW.seq ?_
  refine SW.g0 [0,1,2,3,8,9,10,11,12,13,14,34,36,55,57,60] mixed U ?_
  refine SW.ret ?_
  exact fin _ p 1 s rfl rfl q1 q2
 have e0:((s:Int) == 0)=false:=by rw [beq_eq_false_iff_ne];omega
 refine SW.g0 [0,1,2,3,8,9,10,11,12,13,14,34,36,55,57,60] mixed (e0) ?_
 refine SW.ay rfl ?_
 refine SW.seq ?_
 by_cases h12:s=12
 ·have e1:((s:Int) == 12)=true:=by simp [h12]
  refine SW.g0 [0,1,2,3,8,9,10,11,12,13,14,34,36,55,57,60] mixed (e1) ?_
  refine SW.aC rfl ?_
  refine SW.seq ?_
  refine SW.g0 [0,1,2,3,8,9,10,11,12,13,14,34,36,55,57,60] mixed U ?_
  refine SW.ret ?_
  exact fin _ p 2 s rfl rfl q1 q2
 have e1:((s:Int) == 12)=false:=by rw [beq_eq_false_iff_ne];omega
 refine SW.g0 [0,1,2,3,8,9,10,11,12,13,14,34,36,55,57,60] mixed (e1) ?_
 refine SW.ay rfl ?_
 refine SW.seq ?_
 refine SW.g0 [0,1,2,3,8,9,10,11,12,13,14,34,36,55,57,60] mixed U ?_
 refine SW.ret ?_
 exact fin _ p 0 s rfl rfl q1 q2
theorem BI {m:Nat}{R:List Nat}(hR:Rw D R)(hm:R.length=m)(a b:Nat)(hab:a+12<b)(hb:b≤m)(hl:m<256):
  SC Tryz.prog slices_choosePivotCmpFunc_int.f [.gs n m,i64 a,i64 b,gj g first] (aR n m R::H0) k 0 fun r F=>∃ p h,r= .cW [i64 (p:Nat),i64 (h:Nat)]∧a≤p∧p<b∧F=aR n m R::H0:=
 ha.here hc (BH hc ha hR hm a b hab hb hl) (by have h:=jg ha hc m R;simp only [af] at h;simp [SV.aF,SV.ok,af,h]) fun r F ⟨p,h,h1,_,_,h2⟩=>⟨by rw [h1];intro q;rfl,R,h2⟩
end
end
section
attribute [local irreducible] SW RW bB SC ai aa
section
variable {g:Nat} {first:List SV} {H0:Hp} {c:Nat→Nat→Int} {D:Nat→Prop} {n k:Nat}
variable (hc:jV Tryz.prog g first H0 c D) (ha:At H0 n k)
include hc ha
set_option maxHeartbeats 4000000 in
theorem BJ {m:Nat}{R:List Nat}(hm:R.length=m)(a b:Nat)(hab:a+12<b)(hb:b≤m)(hl:m<256):
  SB Tryz.prog slices_breakPatternsCmpFunc_int.f [.gs n m,i64 a,i64 b,gj g first] (aR n m R::H0) k 0 fun r F=>r= .cW []∧∃ R',ek a b R R'∧F=aR n m R'::H0:=by
 have o1:=ha.fo hc
 have hn:=ha.lt
 refine slices_breakPatternsCmpFunc_int.enter (by simp [SV.ok,SV.aF,o1,hn]) (ha.mC m R) (by simp [SV.aF]) ?_
 dsimp only [slices_breakPatternsCmpFunc_int.s,Co.M,Co.G,Co.J,Co.H,Co.N,Co.F,Co.C,Co.Z,Co.B,Co.b8,Co.aJ,Co.b_,Co.i6,Co.z8,Co.cn]
 have w1:=pM (i:=b) (j:=a) (by omega) (by omega)
 obtain ⟨l,pR⟩:∃ l,l=b - a:=⟨_,rfl⟩
 rw [← pR] at w1
 have w2:IntKind.i64.wrap ((l:Int).tdiv 4)=((l / 4:Nat):Int):=by
  show IntKind.i64.wrap ((l / 4:Nat):Int)=_
  exact wrap_i64 _ (by omega)
 have w4:IntKind.i64.wrap (((l / 4:Nat):Int)*2)=((l / 4*2:Nat):Int):=by
  rw [show ((l / 4:Nat):Int)*2=((l / 4*2:Nat):Int) by omega];exact wrap_i64 _ (by omega)
 have w6:IntKind.i64.wrap (((a+l / 4*2:Nat):Int) - 1)=((a+l / 4*2 - 1:Nat):Int):=jd (by omega) (by omega)
 have w7:IntKind.u64.wrap (l:Int)=(l:Int):=wrap_u64 _ (by omega)
 obtain ⟨hp1,hp2⟩:=BC (x:=l) (by omega) (by omega)
 obtain ⟨M,hM⟩:∃ M,M=2 ^ pN l:=⟨_,rfl⟩
 have w8:IntKind.u64.wrap ((M:Int) - 1)=((M - 1:Nat):Int):=by
  rw [show (M:Int) - 1=((M - 1:Nat):Int) by omega];exact wrap_u64 _ (by omega)
 have hno:lk H0 k=none:=Hp.out ha.ok (Nat.le_refl _)
 have hno2:List.lookup k H0=none:=hno
 have hnk:k≠n:=by omega
 have fk:=dY hnk
 have hn2:n<k+1:=by omega
 have ha1:At H0 n (k+1):=⟨ha.no,by omega,Hp.fG (by omega) ha.ok⟩
 have o1k:=ha1.fo hc
 have h8:=dT (p:=(l:Int)≥8) (by omega)
 have hxok:∀ (z:Int) (R1:List Nat),Hp.ok (fun x=>decide (x<k+1)) (xb k z::aR n m R1::H0)=true:=fun z R1=>kG (by simp) rfl (ha1.mC m R1)
 have hxw:∀ (z:Int) (R1:List Nat) env gp kk,bf id (k+1) env gp→bk k ⟨env,(k,.box 149 [.d (.int .u64 z)])::(n,.arr 3 1 m (pc R1))::H0,kk⟩ ⟨gp,(k,.box 149 [.d (.int .u64 z)])::(n,.arr 3 1 m (pc R1))::H0,k+1⟩ id:=fun z R1 env gp kk he=>
  bk.same (Nat.le_succ k) he (hxok z R1) (fu (lW (by rw [af,if_neg hnk];exact hno) (ha.nd hc m R1)))
 have hxm:∀ (z z':Int) (R1:List Nat),bn false ((k,Ob.box 149 [.d (.int .u64 z)])::(n,.arr 3 1 m (pc R1))::H0) [xb k z] [xb k z']=(k,.box 149 [.d (.int .u64 z')])::(n,.arr 3 1 m (pc R1))::H0:=fun z z' R1=>by
  simp [bn,bz,bA,cw,cB,af]
 have fin:∀ (env:List (Nat×SV)) (R1:List Nat) (z:Int),ek a b R R1→Go.Sl.Fin k 0 slices_breakPatternsCmpFunc_int.rv (fun r F=>r= .cW []∧∃ R',ek a b R R'∧F=aR n m R'::H0) ⟨env,(k,.box 149 [.d (.int .u64 z)])::(n,.arr 3 1 m (pc R1))::H0,k+1⟩:=fun env R1 z hs=>
  End.mk (aR n m R1::H0) (h3:=fun x ob hx=>by
   show lk ((k,_)::aR n m R1::H0) x=_
   rw [af,if_neg (fun e=>by rw [e,af,if_neg hnk,hno] at hx;cases hx)]
   exact hx) (h4:=⟨rfl,R1,hs,rfl⟩) (h6:=by simpa using ha.mC m R1) (h7:=by simp)
 refine SW.seq ?_
 refine SW.g0 [0,1,2,8,9,10,11,12,17,35,45] mixed (w1) ?_
 refine SW.seq ?_
 refine SW.g0 [0,1,2,8,9,10,11,12,17,35,45] mixed (h8) ?_
 refine SW.aC rfl ?_
 refine SW.seq ?_
 have xs1:∀ a b:SV,bV [a] 0 [b]=[b]:=fun _ _=>rfl
 refine SW.g0 [0,1,2,8,9,10,11,12,17,35,45] mixed (And.intro (fk) (And.intro (hno2) (And.intro (w7) (xs1)))) ?_
 refine SW.weak id (hxw _ R _ [(9,.ptr k 0),(8,i64 (l:Nat)),(0,.gs n m),(1,i64 a)] _ ?_) ?_
 ·simp [bf,List.lookup,SV.aP,SV.aH,SV.aM,SV.ok,SV.aF,o1k,hn2]
 refine SW.seq ?_
 (refine SW.au [0,1,2,8,9,10,11,12,17,35,45] mixed ?_;(repeat (first | refine RW.ro U (h:= ?_) | refine RW.skip (h:= ?_) | refine RW.op U (h:= ?_) | refine RW.aL U (h:= ?_) | refine RW.aj (h:= ?_) | (refine RW.aG (h:= ?_);(first | refine ai.mk U (hc:=DT (by first | assumption | omega) _) (h:= ?_)))));refine RW.nil ⟨by kernel_rfl,aa.mk (h:= ?_)⟩)
 rw [← hM]
 refine SW.seq ?_
 refine SW.g0 [0,1,2,8,9,10,11,12,17,35,45] mixed (And.intro (w2) (And.intro (w4) (w6))) ?_
 refine SW.block ?_
 refine SW.loop (α:={x:Nat×Int×List Nat // a+l / 4*2 - 1≤x.1∧x.1≤a+l / 4*2+2∧ek a b R x.2.2})
  (fun x=>⟨[(11,i64 (x.1.1:Nat)),(9,.ptr k 0),(8,i64 (l:Nat)),(10,.d (.int .u64 (M:Int))),(0,.gs n m),(1,i64 a)],(k,.box 149 [.d (.int .u64 x.1.2.1)])::(n,.arr 3 1 m (pc x.1.2.2))::H0,k+1⟩) (fun x=>a+l / 4*2+2 - x.1.1)
  ⟨(a+l / 4*2 - 1,(l:Int),R),Nat.le_refl _,by show a+l / 4*2 - 1≤_;omega,.refl⟩ id ?_ ?_
 ·exact hxw _ R _ _ _ (by simp [bf,List.lookup,SV.aP,SV.aH,SV.aM,SV.ok,SV.aF,o1k,hn2])
 rintro ⟨⟨i,z,R1⟩,q1,q2,hs⟩
 simp only at q1 q2 hs
 dsimp only
 have nR:R1.length=R.length:=hs.len
 by_cases h:i≤a+l / 4*2+1
 case neg=>
  have h1:=dF (p:=(i:Int)≤((a+l / 4*2+1:Nat):Int)) (by omega)
  refine SW.seq (SW.seq ?_)
  refine SW.g0 [0,1,2,8,9,10,11,12,17,35,45] mixed (And.intro (w2) (And.intro (w4) (h1))) ?_
  refine SW.ay rfl (SW.exit ?_)
  exact fin _ R1 z hs
 have h1:=dT (p:=(i:Int)≤((a+l / 4*2+1:Nat):Int)) (by omega)
 refine SW.seq (SW.seq ?_)
 refine SW.g0 [0,1,2,8,9,10,11,12,17,35,45] mixed (And.intro (w2) (And.intro (w4) (h1))) ?_
 refine SW.aC rfl (SW.skip ?_)
 refine SW.seq (SW.block ?_)
 refine SW.seq (SW.lp ?_)
 (repeat (first | refine aK.op U (h:= ?_) | refine aK.aL U (h:= ?_) | refine aK.skip (h:= ?_)))
 refine aK.aG (BG k (k+1) (Nat.lt_succ_self k) z) (HSub.cons (by simp [af]) (HSub.nil _)) (h:= ?_)
 rintro _ _ ⟨z',rfl,rfl⟩
 rw [hxm]
 obtain ⟨o,ho,hbits⟩:=FT z' (M - 1) (by omega)
 (repeat (first | refine aK.op (And.intro (w8) (hbits)) (h:= ?_) | refine aK.aL (And.intro (w8) (hbits)) (h:= ?_) | refine aK.skip (h:= ?_)))
 refine aK.nil ?_
 refine SW.gE (α:={o:Nat // o<l}) (fun x=>⟨[(12,i64 (x.1:Nat)),(11,i64 i),(9,.ptr k 0),(8,i64 (l:Nat)),(10,.d (.int .u64 (M:Int))),(0,.gs n m),(1,i64 a)],(k,.box 149 [.d (.int .u64 z')])::(n,.arr 3 1 m (pc R1))::H0,k+1⟩) ?_ ?_
 ·refine SW.seq ?_
  by_cases hol:l≤o
  ·have h2:=dT (p:=(o:Int)≥(l:Nat)) (by omega)
   have w9:IntKind.i64.wrap ((o:Int) - (l:Int))=((o - l:Nat):Int):=by
    rw [show (o:Int) - (l:Int)=((o - l:Nat):Int) by omega]
    exact wrap_i64 _ (by omega)
   refine SW.g0 [0,1,2,8,9,10,11,12,17,35,45] mixed (h2) ?_
   refine SW.aC rfl ?_
   refine SW.g0 [0,1,2,8,9,10,11,12,17,35,45] mixed (w9) ?_
   refine ⟨⟨o - l,by omega⟩,?_⟩
   exact hxw _ R1 _ _ _ (by simp [bf,List.lookup,SV.aP,SV.aH,SV.aM,SV.ok,SV.aF,o1k,hn2])
  ·have h2:=dF (p:=(o:Int)≥(l:Nat)) (by omega)
   refine SW.g0 [0,1,2,8,9,10,11,12,17,35,45] mixed (h2) ?_
   refine SW.ay rfl (SW.skip ?_)
   refine ⟨⟨o,by omega⟩,?_⟩
   exact hxw _ R1 _ _ _ (by simp [bf,List.lookup,SV.aP,SV.aH,SV.aM,SV.ok,SV.aF,o1k,hn2])
 rintro ⟨u,hu⟩
 dsimp only
 have hx:=bg (R:=R1) (i:=i) (by omega)
 have hy:=bg (R:=R1) (i:=a+u) (by omega)
 have e5:bV (pc R1) i [i64 (ge R1 (a+u):Nat)]=pc (R1.set i (ge R1 (a+u))):=dm _ _ _
 have e6:bV (pc (R1.set i (ge R1 (a+u)))) (a+u) [i64 (ge R1 i:Nat)]=pc (swp R1 i (a+u)):=dm _ _ _
 refine SW.g0 [0,1,2,8,9,10,11,12,17,35,45] mixed (And.intro (fk) (And.intro (aO hx) (And.intro (aO hy) (And.intro (e5) (e6))))) ?_
 refine SW.g0 [0,1,2,8,9,10,11,12,17,35,45] mixed U ?_
 refine ⟨⟨(i+1,z',swp R1 i (a+u)),by show _≤i+1;omega,by show i+1≤_;omega,hs.step (by omega) (by omega) (by omega) (by omega)⟩,id,by show a+l / 4*2+2 - (i+1)<a+l / 4*2+2 - i;omega,?_⟩
 exact hxw _ (swp R1 i (a+u)) _ _ _ (by simp [bf,List.lookup,SV.aP,SV.aH,SV.aM,SV.ok,SV.aF,o1k,hn2])
theorem BK {m:Nat}{R:List Nat}(hm:R.length=m)(a b:Nat)(hab:a+12<b)(hb:b≤m)(hl:m<256):
  SC Tryz.prog slices_breakPatternsCmpFunc_int.f [.gs n m,i64 a,i64 b,gj g first] (aR n m R::H0) k 0 fun r F=>r= .cW []∧∃ R',ek a b R R'∧F=aR n m R'::H0:=
 ha.here hc (BJ hc ha hm a b hab hb hl) (by have h:=jg ha hc m R;simp only [af] at h;simp [SV.aF,SV.ok,af,h]) fun r F ⟨h1,R',_,h2⟩=>⟨by rw [h1];intro q;rfl,R',h2⟩
end
end
section
attribute [local irreducible] SW RW bB SC ai aa
def Left (c:Nat→Nat→Int)(R:List Nat)(a b a' b':Nat):Prop:=∀ R2,ek a' b' R R2→gH c R2 a' b'→gH c R2 a b
section
variable {g:Nat} {first:List SV} {H0:Hp} {c:Nat→Nat→Int} {D:Nat→Prop} {n k:Nat}
theorem Left.keep {R R':List Nat}{a b a' b':Nat}(h:Left c R a b a' b')(hs:ek a' b' R R'):Left c R' a b a' b':=fun R2 h1 h2=>h R2 (hs.trans h1) h2
variable (hc:jV Tryz.prog g first H0 c D) (ha:At H0 n k)
include hc ha
omit ha in
theorem Left.right {R R':List Nat}{a b a' q b':Nat}(hR:Rw D R)(h:Left c R a b a' b')(hsp:vi c R a' q b')(hs:ek a' q R R')(r_:gH c R' a' q)(h1:a'≤q)(h2:q<b')(h3:b'≤R.length):Left c R' a b (q+1) b':=fun R2 k1 k2=>by
 have l1:=hs.len
 have l2:=k1.len
 have hR':=hR.s5 hs (by omega)
 refine h R2 ((hs.mono (Nat.le_refl _) (by omega)).trans (k1.mono (by omega) (Nat.le_refl _))) ?_
 refine vi.sorted hc.tot (hR'.s5 k1 (by omega)) (m:=q) ((hsp.left hs h2 h3).right k1 h2 (by omega)) h1 h2 (by omega) ?_ k2
 exact r_.same fun z z1 z2=>k1.out (by omega) (.inl (by omega))
omit ha in
theorem Left.left {R R':List Nat}{a b a' q b':Nat}(hR:Rw D R)(h:Left c R a b a' b')(hsp:vi c R a' q b')(hs:ek (q+1) b' R R')(r_:gH c R' (q+1) b')(h1:a'≤q)(h2:q<b')(h3:b'≤R.length):Left c R' a b a' q:=fun R2 k1 k2=>by
 have l1:=hs.len
 have l2:=k1.len
 have hR':=hR.s5 hs (by omega)
 refine h R2 ((hs.mono (by omega) (Nat.le_refl _)).trans (k1.mono (Nat.le_refl _) (by omega))) ?_
 refine vi.sorted hc.tot (hR'.s5 k1 (by omega)) (m:=q) ((hsp.right hs h2 h3).left k1 h2 (by omega)) h1 h2 (by omega) k2 ?_
 exact r_.same fun z z1 z2=>k1.out (by omega) (.inr (by omega))
set_option maxHeartbeats 8000000 in
theorem FV (N:Nat):∀ {m:Nat} {R:List Nat} (hR:Rw D R) (hm:R.length=m) (a b:Nat) (lim:Int) (hab:a≤b) (hb:b≤m) (hl:m<256) (hU:xQ c R a b) (hN:b - a<N),
  SB Tryz.prog slices_pdqsortCmpFunc_int.f [.gs n m,i64 a,i64 b,i64 lim,gj g first] (aR n m R::H0) k 0 fun r F=>r= .cW []∧∃ R',ek a b R R'∧gH c R' a b∧F=aR n m R'::H0:=by
 induction N with
 | zero=>intros;omega
 | succ N ih=>
 intro m R hR hm a b lim hab hb hl hU hN
 have o1:=ha.fo hc
 have hn:=ha.lt
 have ihC:∀ {R:List Nat} (hR:Rw D R) (hm:R.length=m) (a b:Nat) (lim:Int) (hab:a≤b) (hb:b≤m) (hU:xQ c R a b) (hN:b - a<N),SC Tryz.prog slices_pdqsortCmpFunc_int.f [.gs n m,i64 a,i64 b,i64 lim,gj g first] (aR n m R::H0) k 0 fun r F=>r= .cW []∧∃ R',ek a b R R'∧gH c R' a b∧F=aR n m R'::H0:=fun {R} hR hm a b lim hab hb hU hN=>
  ha.here hc (ih hR hm a b lim hab hb hl hU hN) (by have h:=jg ha hc m R;simp only [af] at h;simp [SV.aF,SV.ok,af,h]) fun r F ⟨h1,R',_,_,h2⟩=>⟨by rw [h1];intro q;rfl,R',h2⟩
 have fin:∀ (env:List (Nat×SV)) (R1:List Nat),ek a b R R1→gH c R1 a b→Go.Sl.Fin k 0 slices_pdqsortCmpFunc_int.rv (fun r F=>r= .cW []∧∃ R',ek a b R R'∧gH c R' a b∧F=aR n m R'::H0) ⟨env,aR n m R1::H0,k⟩:=fun env R1 hs r_=>
  End.mk (aR n m R1::H0) (h3:=fun _ _ h=>h) (h4:=⟨rfl,R1,hs,r_,rfl⟩) (h6:=by simpa using ha.mC m R1)
 refine slices_pdqsortCmpFunc_int.enter (by simp [SV.ok,SV.aF,o1,hn]) (ha.mC m R) (by simp [SV.aF]) ?_
 dsimp only [slices_pdqsortCmpFunc_int.s,Co.M,Co.G,Co.J,Co.H,Co.N,Co.F,Co.C,Co.Z,Co.B,Co.b8,Co.aJ,Co.b_,Co.i6,Co.z8,Co.cn]
 refine SW.seq ?_
 refine SW.g0 [0,1,2,3,4,10,11,12,13,14,15,16,17,18,19,20,25,32,39,56,75,80,97,125] mixed U ?_
 refine SW.seq ?_
 refine SW.g0 [0,1,2,3,4,10,11,12,13,14,15,16,17,18,19,20,25,32,39,56,75,80,97,125] mixed U ?_
 refine SW.block ?_
 refine SW.loop (α:={x:Nat×Nat×Int×Bool×Bool×List Nat // a≤x.1∧x.1≤x.2.1∧x.2.1≤b∧ek a b R x.2.2.2.2.2∧xQ c x.2.2.2.2.2 x.1 x.2.1∧Left c x.2.2.2.2.2 a b x.1 x.2.1})
  (fun x=>⟨[(1,i64 (x.1.1:Nat)),(2,i64 (x.1.2.1:Nat)),(3,i64 x.1.2.2.1),(10,bl x.1.2.2.2.1),(11,bl x.1.2.2.2.2.1),(0,.gs n m),(4,gj g first)],aR n m x.1.2.2.2.2.2::H0,k⟩) (fun x=>x.1.2.1 - x.1.1)
  ⟨(a,b,lim,true,true,R),Nat.le_refl _,hab,Nat.le_refl _,.refl,hU,fun R2 h1 h2=>h2⟩ id ?_ ?_
 ·exact ha.weak hc m R (by simp [bf,List.lookup,SV.aP,SV.aH,SV.aM,SV.ok,SV.aF,o1,hn])
 clear hU lim
 rintro ⟨⟨a1,b1,lim,wb,wp,R1⟩,q1,q2,q3,hs,hU,hleft⟩
 simp only at q1 q2 q3 hs hU hleft
 dsimp only
 have nR:R1.length=R.length:=hs.len
 have hRR:Rw D R1:=hR.s5 hs (by omega)
 have w1:=pM (i:=b1) (j:=a1) q2 (by omega)
 refine SW.block ?_
 refine SW.seq ?_
 refine SW.g0 [0,1,2,3,4,10,11,12,13,14,15,16,17,18,19,20,25,32,39,56,75,80,97,125] mixed (w1) ?_
 by_cases h12:b1 - a1≤12
 ·have h1:=dT (p:=((b1 - a1:Nat):Int)≤12) (by omega)
  refine SW.seq (SW.seq ?_)
  refine SW.g0 [0,1,2,3,4,10,11,12,13,14,15,16,17,18,19,20,25,32,39,56,75,80,97,125] mixed (h1) ?_
  refine SW.aC rfl ?_
  refine SW.seq (SW.lp ?_)
  (repeat (first | refine aK.op U (h:= ?_) | refine aK.aL U (h:= ?_) | refine aK.skip (h:= ?_)))
  refine aK.aG (za hc ha hRR (by omega) a1 b1 (by omega) (by omega) hl) (fun _ _ h=>h) (h:= ?_)
  rintro _ _ ⟨rfl,R2,hs2,hsr2,rfl⟩
  rw [oG hc ha]
  refine aK.nil ?_
  refine SW.ret ?_
  exact fin _ R2 (hs.trans (hs2.mono q1 q3)) (hleft R2 hs2 hsr2)
 have h1:=dF (p:=((b1 - a1:Nat):Int)≤12) (by omega)
 refine SW.seq (SW.seq ?_)
 refine SW.g0 [0,1,2,3,4,10,11,12,13,14,15,16,17,18,19,20,25,32,39,56,75,80,97,125] mixed (h1) ?_
 refine SW.ay rfl (SW.skip ?_)
 rcases hlim:(lim == 0) with _ | _
 case true=>
  refine SW.seq (SW.seq ?_)
  refine SW.g0 [0,1,2,3,4,10,11,12,13,14,15,16,17,18,19,20,25,32,39,56,75,80,97,125] mixed (hlim) ?_
  refine SW.aC rfl ?_
  refine SW.seq (SW.lp ?_)
  (repeat (first | refine aK.op U (h:= ?_) | refine aK.aL U (h:= ?_) | refine aK.skip (h:= ?_)))
  refine aK.aG (DO hc ha hRR (by omega) a1 b1 (by omega) (by omega) hl) (fun _ _ h=>h) (h:= ?_)
  rintro _ _ ⟨rfl,R2,hs2,hsr2,rfl⟩
  rw [oG hc ha]
  refine aK.nil ?_
  refine SW.ret ?_
  exact fin _ R2 (hs.trans (hs2.mono q1 q3)) (hleft R2 hs2 hsr2)
 refine SW.seq (SW.seq ?_)
 refine SW.g0 [0,1,2,3,4,10,11,12,13,14,15,16,17,18,19,20,25,32,39,56,75,80,97,125] mixed (hlim) ?_
 refine SW.ay rfl (SW.skip ?_)
 refine SW.gE (α:={x:Int×List Nat // ek a1 b1 R1 x.2}) (fun x=>⟨[(12,i64 (b1 - a1:Nat)),(1,i64 (a1:Nat)),(2,i64 (b1:Nat)),(3,i64 x.1.1),(10,bl wb),(11,bl wp),(0,.gs n m),(4,gj g first)],aR n m x.1.2::H0,k⟩) ?_ ?_
 ·refine SW.seq ?_
  rcases wb with _ | _
  ·refine SW.g0 [0,1,2,3,4,10,11,12,13,14,15,16,17,18,19,20,25,32,39,56,75,80,97,125] mixed U ?_
   refine SW.aC rfl ?_
   refine SW.seq (SW.lp ?_)
   (repeat (first | refine aK.op U (h:= ?_) | refine aK.aL U (h:= ?_) | refine aK.skip (h:= ?_)))
   refine aK.aG (BK hc ha (R:=R1) (by omega) a1 b1 (by omega) (by omega) hl) (fun _ _ h=>h) (h:= ?_)
   rintro _ _ ⟨rfl,R2,hs2,rfl⟩
   rw [oG hc ha]
   refine aK.nil ?_
   refine SW.g0 [0,1,2,3,4,10,11,12,13,14,15,16,17,18,19,20,25,32,39,56,75,80,97,125] mixed U ?_
   refine ⟨⟨(IntKind.i64.wrap (lim - 1),R2),hs2⟩,?_⟩
   exact ha.weak hc m R2 (by simp [bf,List.lookup,SV.aP,SV.aH,SV.aM,SV.ok,SV.aF,o1,hn])
  ·refine SW.g0 [0,1,2,3,4,10,11,12,13,14,15,16,17,18,19,20,25,32,39,56,75,80,97,125] mixed U ?_
   refine SW.ay rfl (SW.skip ?_)
   refine ⟨⟨(lim,R1),.refl⟩,?_⟩
   exact ha.weak hc m R1 (by simp [bf,List.lookup,SV.aP,SV.aH,SV.aM,SV.ok,SV.aF,o1,hn])
 clear hlim h1
 clear lim
 rintro ⟨⟨lim,R2⟩,hs2⟩
 simp only at hs2
 dsimp only
 have hs:=hs.trans (hs2.mono q1 q3)
 have hU:=hU.keep hs2 (by omega)
 have hleft:=hleft.keep hs2
 have pR:R2.length=R.length:=hs.len
 have hR2:Rw D R2:=hR.s5 hs (by omega)
 refine SW.seq (SW.lp ?_)
 (repeat (first | refine aK.op U (h:= ?_) | refine aK.aL U (h:= ?_) | refine aK.skip (h:= ?_)))
 refine aK.aG (BI hc ha hR2 (by omega) a1 b1 (by omega) (by omega) hl) (fun _ _ h=>h) (h:= ?_)
 rintro _ _ ⟨p,hint,rfl,p1,p2,rfl⟩
 rw [oG hc ha]
 (repeat (first | refine aK.op U (h:= ?_) | refine aK.aL U (h:= ?_) | refine aK.skip (h:= ?_)))
 refine aK.nil ?_
 refine SW.gE (α:={x:Nat×Nat×List Nat // a1≤x.1∧x.1<b1∧ek a1 b1 R2 x.2.2}) (fun x=>⟨[(13,i64 (x.1.1:Nat)),(14,i64 (x.1.2.1:Nat)),(12,i64 (b1 - a1:Nat)),(1,i64 (a1:Nat)),(2,i64 (b1:Nat)),(3,i64 lim),(10,bl wb),(11,bl wp),(0,.gs n m),(4,gj g first)],aR n m x.1.2.2::H0,k⟩) ?_ ?_
 ·refine SW.seq ?_
  by_cases hh:hint=2
  ·have h2:((hint:Int) == 2)=true:=by simp [hh]
   have w2:=jd (i:=b1) (by omega) (by omega)
   have w3:=pM (i:=p) (j:=a1) (by omega) (by omega)
   have w4:=pM (i:=b1 - 1) (j:=p - a1) (by omega) (by omega)
   refine SW.g0 [0,1,2,3,4,10,11,12,13,14,15,16,17,18,19,20,25,32,39,56,75,80,97,125] mixed (h2) ?_
   refine SW.aC rfl ?_
   refine SW.seq (SW.lp ?_)
   (repeat (first | refine aK.op U (h:= ?_) | refine aK.aL U (h:= ?_) | refine aK.skip (h:= ?_)))
   refine aK.aG (BB hc ha (R:=R2) (by omega) a1 b1 (by omega) (by omega) hl) (fun _ _ h=>h) (h:= ?_)
   rintro _ _ ⟨rfl,R3,hs3,rfl⟩
   rw [oG hc ha]
   refine aK.nil ?_
   refine SW.seq ?_
   refine SW.g0 [0,1,2,3,4,10,11,12,13,14,15,16,17,18,19,20,25,32,39,56,75,80,97,125] mixed (And.intro (w2) (And.intro (w3) (w4))) ?_
   refine SW.g0 [0,1,2,3,4,10,11,12,13,14,15,16,17,18,19,20,25,32,39,56,75,80,97,125] mixed U ?_
   refine ⟨⟨(b1 - 1 - (p - a1),1,R3),by show a1≤b1 - 1 - (p - a1);omega,by show b1 - 1 - (p - a1)<b1;omega,hs3⟩,?_⟩
   exact ha.weak hc m R3 (by simp [bf,List.lookup,SV.aP,SV.aH,SV.aM,SV.ok,SV.aF,o1,hn])
  ·have h2:((hint:Int) == 2)=false:=by rw [beq_eq_false_iff_ne];omega
   refine SW.g0 [0,1,2,3,4,10,11,12,13,14,15,16,17,18,19,20,25,32,39,56,75,80,97,125] mixed (h2) ?_
   refine SW.ay rfl (SW.skip ?_)
   refine ⟨⟨(p,hint,R2),p1,p2,.refl⟩,?_⟩
   exact ha.weak hc m R2 (by simp [bf,List.lookup,SV.aP,SV.aH,SV.aM,SV.ok,SV.aF,o1,hn])
 clear p1 p2
 clear p hint
 rintro ⟨⟨p,hint,R3⟩,p1,p2,hs3⟩
 simp only at p1 p2 hs3
 dsimp only
 have hs:=hs.trans (hs3.mono q1 q3)
 have hU:=hU.keep hs3 (by omega)
 have hleft:=hleft.keep hs3
 have hl3:R3.length=R.length:=hs.len
 have hR3:Rw D R3:=hR.s5 hs (by omega)
 refine SW.gE (α:={x:List Nat // ek a1 b1 R3 x}) (fun x=>⟨[(13,i64 p),(12,i64 (b1 - a1:Nat)),(1,i64 (a1:Nat)),(2,i64 (b1:Nat)),(3,i64 lim),(0,.gs n m),(4,gj g first)],aR n m x.1::H0,k⟩) ?_ ?_
 ·have stay:∀ env kk,bf id k env [(13,i64 p),(12,i64 (b1 - a1:Nat)),(1,i64 (a1:Nat)),(2,i64 (b1:Nat)),(3,i64 lim),(0,.gs n m),(4,gj g first)]→∃ x:{x:List Nat // ek a1 b1 R3 x},bk k ⟨env,aR n m R3::H0,kk⟩ ⟨[(13,i64 p),(12,i64 (b1 - a1:Nat)),(1,i64 (a1:Nat)),(2,i64 (b1:Nat)),(3,i64 lim),(0,.gs n m),(4,gj g first)],aR n m x.1::H0,k⟩ id:=fun env kk he=>⟨⟨R3,.refl⟩,ha.weak hc m R3 he⟩
  refine SW.seq ?_
  rcases wb with _ | _
  ·refine SW.g0 [0,1,2,3,4,10,11,12,13,14,15,16,17,18,19,20,25,32,39,56,75,80,97,125] mixed U ?_
   refine SW.ay rfl (SW.skip ?_)
   exact stay _ _ (by simp [bf,List.lookup,SV.aP,SV.aH,SV.aM,SV.ok,SV.aF,o1,hn])
  rcases wp with _ | _
  ·refine SW.g0 [0,1,2,3,4,10,11,12,13,14,15,16,17,18,19,20,25,32,39,56,75,80,97,125] mixed U ?_
   refine SW.ay rfl (SW.skip ?_)
   exact stay _ _ (by simp [bf,List.lookup,SV.aP,SV.aH,SV.aM,SV.ok,SV.aF,o1,hn])
  rcases hh:((hint:Int) == 1) with _ | _
  ·refine SW.g0 [0,1,2,3,4,10,11,12,13,14,15,16,17,18,19,20,25,32,39,56,75,80,97,125] mixed (hh) ?_
   refine SW.ay rfl (SW.skip ?_)
   exact stay _ _ (by simp [bf,List.lookup,SV.aP,SV.aH,SV.aM,SV.ok,SV.aF,o1,hn])
  ·refine SW.g0 [0,1,2,3,4,10,11,12,13,14,15,16,17,18,19,20,25,32,39,56,75,80,97,125] mixed (hh) ?_
   refine SW.aC rfl ?_
   refine SW.seq (SW.lp ?_)
   (repeat (first | refine aK.op U (h:= ?_) | refine aK.aL U (h:= ?_) | refine aK.skip (h:= ?_)))
   refine aK.aG (DQ hc ha hR3 (by omega) a1 b1 (by omega) (by omega) hl hU) (fun _ _ h=>h) (h:= ?_)
   rintro _ _ ⟨ok,R4,rfl,hs4,hok,rfl⟩
   rw [oG hc ha]
   refine aK.nil ?_
   rcases ok with _ | _
   ·refine SW.ay rfl (SW.skip ?_)
    refine ⟨⟨R4,hs4⟩,?_⟩
    exact ha.weak hc m R4 (by simp [bf,List.lookup,SV.aP,SV.aH,SV.aM,SV.ok,SV.aF,o1,hn])
   ·refine SW.aC rfl (SW.ret ?_)
    exact fin _ R4 (hs.trans (hs4.mono q1 q3)) (hleft R4 hs4 (hok rfl))
 rintro ⟨R4,hs4⟩
 dsimp only
 have hs:=hs.trans (hs4.mono q1 q3)
 have hU:=hU.keep hs4 (by omega)
 have hleft:=hleft.keep hs4
 have hl4:R4.length=R.length:=hs.len
 have hR4:Rw D R4:=hR.s5 hs (by omega)
 refine SW.gE (α:=Unit) (fun _=>⟨[(13,i64 p),(12,i64 (b1 - a1:Nat)),(1,i64 (a1:Nat)),(2,i64 (b1:Nat)),(3,i64 lim),(0,.gs n m),(4,gj g first)],aR n m R4::H0,k⟩) ?_ ?_
 ·refine SW.seq ?_
  by_cases h0:a1=0
  ·have h2:=dF (p:=(a1:Int)>0) (by omega)
   refine SW.g0 [0,1,2,3,4,10,11,12,13,14,15,16,17,18,19,20,25,32,39,56,75,80,97,125] mixed (h2) ?_
   refine SW.ay rfl (SW.skip ?_)
   exact ⟨(),ha.weak hc m R4 (by simp [bf,List.lookup,SV.aP,SV.aH,SV.aM,SV.ok,SV.aF,o1,hn])⟩
  ·have h2:=dT (p:=(a1:Int)>0) (by omega)
   have w2:=jd (i:=a1) (by omega) (by omega)
   have hx:=bg (R:=R4) (i:=a1 - 1) (by omega)
   have hy:=bg (R:=R4) (i:=p) (by omega)
   have cT:=hc.call (ge R4 (a1 - 1)) (ge R4 p) k (hR4.all _ (cE (by omega))) (hR4.all _ (cE (by omega))) ha.ok
   have hbb:decide (c (ge R4 (a1 - 1)) (ge R4 p)<0)=true:=decide_eq_true ((hU.resolve_left h0) p p1 p2)
   refine SW.g1 [0,1,2,3,4,10,11,12,13,14,15,16,17,18,19,20,25,32,39,56,75,80,97,125] mixed (And.intro (h2) (And.intro (w2) (And.intro (aO hx) (And.intro (aO hy) (hbb))))) cT ?_
   refine SW.ay rfl (SW.skip ?_)
   exact ⟨(),ha.weak hc m R4 (by simp [bf,List.lookup,SV.aP,SV.aH,SV.aM,SV.ok,SV.aF,o1,hn])⟩
 rintro _
 refine SW.seq (SW.lp ?_)
 (repeat (first | refine aK.op U (h:= ?_) | refine aK.aL U (h:= ?_) | refine aK.skip (h:= ?_)))
 refine aK.aG (DL hc ha hR4 (by omega) a1 b1 p p1 p2 (by omega) hl) (fun _ _ h=>h) (h:= ?_)
 rintro _ _ ⟨q,ap,R5,rfl,r1,r2,hs5,hsp,rfl⟩
 rw [oG hc ha]
 (repeat (first | refine aK.op U (h:= ?_) | refine aK.aL U (h:= ?_) | refine aK.skip (h:= ?_)))
 refine aK.nil ?_
 have hs:=hs.trans (hs5.mono q1 q3)
 have hU:=hU.keep hs5 (by omega)
 have hleft:=hleft.keep hs5
 have hl5:R5.length=R.length:=hs.len
 have hR5:Rw D R5:=hR.s5 hs (by omega)
 have w5:=pM (i:=q) (j:=a1) (by omega) (by omega)
 have w6:=pM (i:=b1) (j:=q) (by omega) (by omega)
 have w7:IntKind.i64.wrap (((b1 - a1:Nat):Int).tdiv 8)=(((b1 - a1) / 8:Nat):Int):=by
  show IntKind.i64.wrap (((b1 - a1) / 8:Nat):Int)=_
  exact wrap_i64 _ (by omega)
 refine SW.seq ?_
 refine SW.g0 [0,1,2,3,4,10,11,12,13,14,15,16,17,18,19,20,25,32,39,56,75,80,97,125] mixed U ?_
 refine SW.seq ?_
 refine SW.g0 [0,1,2,3,4,10,11,12,13,14,15,16,17,18,19,20,25,32,39,56,75,80,97,125] mixed (And.intro (w5) (w6)) ?_
 refine SW.seq ?_
 refine SW.g0 [0,1,2,3,4,10,11,12,13,14,15,16,17,18,19,20,25,32,39,56,75,80,97,125] mixed (w7) ?_
 refine SW.seq ?_
 by_cases hlr:q - a1<b1 - q
 ·have h3:=dT (p:=((q - a1:Nat):Int)<((b1 - q:Nat):Int)) (by omega)
  refine SW.g0 [0,1,2,3,4,10,11,12,13,14,15,16,17,18,19,20,25,32,39,56,75,80,97,125] mixed (h3) ?_
  refine SW.aC rfl ?_
  refine SW.seq ?_
  refine SW.g0 [0,1,2,3,4,10,11,12,13,14,15,16,17,18,19,20,25,32,39,56,75,80,97,125] mixed U ?_
  refine SW.seq (SW.lp ?_)
  (repeat (first | refine aK.op U (h:= ?_) | refine aK.aL U (h:= ?_) | refine aK.skip (h:= ?_)))
  refine aK.aG (ihC hR5 (by omega) a1 q lim r1 (by omega) (hU.left (by omega)) (by omega)) (fun _ _ h=>h) (h:= ?_)
  rintro _ _ ⟨rfl,R6,hs6,hsr6,rfl⟩
  rw [oG hc ha]
  refine aK.nil ?_
  refine SW.g0 [0,1,2,3,4,10,11,12,13,14,15,16,17,18,19,20,25,32,39,56,75,80,97,125] mixed U ?_
  have hs7:ek a b R R6:=hs.trans (hs6.mono q1 (by omega))
  have hsp6:=hsp.left hs6 r2 (by omega)
  have hL:=Left.right hc hR5 hleft hsp hs6 hsr6 r1 r2 (by omega)
  refine ⟨⟨(q+1,b1,lim,decide (((q - a1:Nat):Int)≥(((b1 - a1) / 8:Nat):Int)),ap,R6),by show a≤q+1;omega,by show q+1≤b1;omega,q3,hs7,hsp6.Ho,hL⟩,id,by show b1 - (q+1)<b1 - a1;omega,?_⟩
  exact ha.weak hc m R6 (by simp [bf,List.lookup,SV.aP,SV.aH,SV.aM,SV.ok,SV.aF,o1,hn])
 ·have h3:=dF (p:=((q - a1:Nat):Int)<((b1 - q:Nat):Int)) (by omega)
  refine SW.g0 [0,1,2,3,4,10,11,12,13,14,15,16,17,18,19,20,25,32,39,56,75,80,97,125] mixed (h3) ?_
  refine SW.ay rfl ?_
  refine SW.seq ?_
  refine SW.g0 [0,1,2,3,4,10,11,12,13,14,15,16,17,18,19,20,25,32,39,56,75,80,97,125] mixed U ?_
  refine SW.seq (SW.lp ?_)
  (repeat (first | refine aK.op U (h:= ?_) | refine aK.aL U (h:= ?_) | refine aK.skip (h:= ?_)))
  refine aK.aG (ihC hR5 (by omega) (q+1) b1 lim (by omega) (by omega) hsp.Ho (by omega)) (fun _ _ h=>h) (h:= ?_)
  rintro _ _ ⟨rfl,R6,hs6,hsr6,rfl⟩
  rw [oG hc ha]
  refine aK.nil ?_
  refine SW.g0 [0,1,2,3,4,10,11,12,13,14,15,16,17,18,19,20,25,32,39,56,75,80,97,125] mixed U ?_
  have hs7:ek a b R R6:=hs.trans (hs6.mono (by omega) q3)
  have hL:=Left.left hc hR5 hleft hsp hs6 hsr6 r1 r2 (by omega)
  have hLo:xQ c R6 a1 q:=(hU.keep (hs6.mono (by omega) (Nat.le_refl _)) (by omega)).left (by omega)
  refine ⟨⟨(a1,q,lim,decide (((b1 - q:Nat):Int)≥(((b1 - a1) / 8:Nat):Int)),ap,R6),q1,r1,by show q≤b;omega,hs7,hLo,hL⟩,id,by show q - a1<b1 - a1;omega,?_⟩
  exact ha.weak hc m R6 (by simp [bf,List.lookup,SV.aP,SV.aH,SV.aM,SV.ok,SV.aF,o1,hn])
theorem FW {m:Nat}{R:List Nat}(hR:Rw D R)(hm:R.length=m)(a b:Nat)(lim:Int)(hab:a≤b)(hb:b≤m)(hl:m<256)(hU:xQ c R a b):
  SC Tryz.prog slices_pdqsortCmpFunc_int.f [.gs n m,i64 a,i64 b,i64 lim,gj g first] (aR n m R::H0) k 0 fun r F=>r= .cW []∧∃ R',ek a b R R'∧gH c R' a b∧F=aR n m R'::H0:=
 ha.here hc (FV hc ha (b - a+1) hR hm a b lim hab hb hl hU (Nat.lt_succ_self _)) (by have h:=jg ha hc m R;simp only [af] at h;simp [SV.aF,SV.ok,af,h]) fun r F ⟨h1,R',_,_,h2⟩=>⟨by rw [h1];intro q;rfl,R',h2⟩
set_option maxHeartbeats 4000000 in
theorem BL {m:Nat}{R:List Nat}(hR:Rw D R)(hm:R.length=m)(hl:m<256):
  SB Tryz.prog slices_SortFunc_Lint_int.f [.gs n m,gj g first] (aR n m R::H0) k 0 fun r F=>r= .cW []∧∃ R',R'.Perm R∧gH c R' 0 m∧F=aR n m R'::H0:=by
 have o1:=ha.fo hc
 have hn:=ha.lt
 refine slices_SortFunc_Lint_int.enter (by simp [SV.ok,SV.aF,o1,hn]) (ha.mC m R) (by simp [SV.aF]) ?_
 dsimp only [slices_SortFunc_Lint_int.s,Co.M,Co.G,Co.J,Co.H,Co.N,Co.F,Co.C,Co.Z,Co.B,Co.b8,Co.aJ,Co.b_,Co.i6,Co.z8,Co.cn]
 have fin:∀ (env:List (Nat×SV)) (R1:List Nat),R1.Perm R→gH c R1 0 m→Go.Sl.Fin k 0 slices_SortFunc_Lint_int.rv (fun r F=>r= .cW []∧∃ R',R'.Perm R∧gH c R' 0 m∧F=aR n m R'::H0) ⟨env,aR n m R1::H0,k⟩:=fun env R1 hs r_=>
  End.mk (aR n m R1::H0) (h3:=fun _ _ h=>h) (h4:=⟨rfl,R1,hs,r_,rfl⟩) (h6:=by simpa using ha.mC m R1)
 refine SW.seq ?_
 refine SW.g0 [0,1,4] mixed U ?_
 refine SW.lp ?_
 (repeat (first | refine aK.op U (h:= ?_) | refine aK.aL U (h:= ?_) | refine aK.skip (h:= ?_)))
 refine aK.EN hm (wU hl k) (h:= ?_)
 (repeat (first | refine aK.op U (h:= ?_) | refine aK.aL U (h:= ?_) | refine aK.skip (h:= ?_)))
 refine aK.aG (FW hc ha hR hm 0 m (pN m:Nat) (Nat.zero_le _) (Nat.le_refl _) hl (.inl rfl)) (fun _ _ h=>h) (h:= ?_)
 rintro _ _ ⟨rfl,R2,hs2,hsr2,rfl⟩
 rw [oG hc ha]
 refine aK.nil ?_
 exact fin _ R2 (hs2.perm (by omega)) hsr2
theorem BM {m:Nat}{R:List Nat}(hR:Rw D R)(hm:R.length=m)(hl:m<256):
  SC Tryz.prog slices_SortFunc_Lint_int.f [.gs n m,gj g first] (aR n m R::H0) k 0 fun r F=>r= .cW []∧∃ R',R'.Perm R∧gH c R' 0 m∧F=aR n m R'::H0:=
 ha.here hc (BL hc ha hR hm hl) (by have h:=jg ha hc m R;simp only [af] at h;simp [SV.aF,SV.ok,af,h]) fun r F ⟨h1,R',_,_,h2⟩=>⟨by rw [h1];intro q;rfl,R',h2⟩
end
end
end Go.Proofs.YtnakpdoioammhaaGreatDoor
