/-
 Sorting places by a function: insertion.
-/
import Derived.Test.YtnakpdoioammhaaGreatDoorUK
import Derived.Test.YtnakpdoioammhaaGreatDoorUV
import Derived.Test.YtnakpdoioammhaaGreatDoorUM
import Derived.Test.YtnakpdoioammhaaGreatDoorUL
set_option linter.unusedSectionVars false
set_option linter.unusedVariables false
set_option linter.unusedSimpArgs false
namespace Go.Proofs.YtnakpdoioammhaaGreatDoor
open Go.Sl Go.Proofs
section
attribute [local irreducible] SW RW bB SC ai aa
def pc (R:List Nat):List SV:=R.map fun (x:Nat)=>i64 (x:Int)
@[simp] theorem Ij (R:List Nat):(pc R).length=R.length:=by simp [pc]
theorem aO {R:List Nat}{i x:Nat}(h:R[i]? =some x):(pc R)[i]? =some (i64 (x:Int)):=by simp [pc,h]
theorem dm (R:List Nat)(i x:Nat):(pc R).set i (i64 (x:Int))=pc (R.set i x):=by simp [pc,List.map_set]
theorem jc (q:Nat→Bool)(R:List Nat):SV.aF q (pc R)=true:=by
 unfold pc
 induction R with
 | nil=>rfl
 | cons x R ih=>simpa [SV.aF,SV.ok] using ih
theorem oD (ρ:Nat→Nat)(R:List Nat):SV.aM ρ (pc R)=pc R:=by
 unfold pc
 induction R with
 | nil=>rfl
 | cons x R ih=>simpa [SV.aM,SV.aP] using ih
abbrev aR (n m:Nat)(R:List Nat):Nat×Ob:=(n,.arr 3 1 m (pc R))
abbrev gj (g:Nat)(first:List SV):SV:= .fn (.func g) first []
structure jV (P:Program)(g:Nat)(first:List SV)(H0:Hp)(c:Nat→Nat→Int)(D:Nat→Prop):Prop where
 tot:HK c D
 call:∀ x y k,D x→D y→H0.ok (fun n=>decide (n<k))=true→bB P g (first++[i64 (x:Int),i64 (y:Int)]) [] k 0 (i64 (c x y)) []
 fo:SV.aF (fun n=>(lk H0 n).isSome) first=true
 nd:(H0.map (·.1)).Nodup
 cl:H0.ok (fun n=>(lk H0 n).isSome)=true
structure At (H0:Hp)(n k:Nat):Prop where
 no:lk H0 n=none
 lt:n<k
 ok:H0.ok (fun z=>decide (z<k))=true
section
variable {g:Nat} {first:List SV} {H0:Hp} {c:Nat→Nat→Int} {D:Nat→Prop} {n k:Nat}
theorem At.fo (h:At H0 n k)(hc:jV Tryz.prog g first H0 c D):SV.aF (fun z=>decide (z<k)) first=true:=SV.fq (fun m hm=>by
 obtain ⟨ob,ho⟩:=Option.isSome_iff_exists.1 hm
 exact (Hp.f_ h.ok ho).1) _ hc.fo
theorem At.mC (h:At H0 n k)(m:Nat)(R:List Nat):Hp.ok (fun z=>decide (z<k)) (aR n m R::H0)=true:=kG (by simpa using h.lt) (jc _ R) h.ok
theorem At.nd (h:At H0 n k)(hc:jV Tryz.prog g first H0 c D)(m:Nat)(R:List Nat):((aR n m R::H0:Hp).map (·.1)).Nodup:=lW h.no hc.nd
theorem At.weak (h:At H0 n k)(hc:jV Tryz.prog g first H0 c D)(m:Nat)(R:List Nat){env gp:List (Nat×SV)}{kk:Nat}(he:bf id k env gp):bk k ⟨env,aR n m R::H0,kk⟩ ⟨gp,aR n m R::H0,k⟩ id:=
 bk.same (Nat.le_refl _) he (h.mC m R) (fu (h.nd hc m R))
theorem At.here (h:At H0 n k)(hc:jV Tryz.prog g first H0 c D){f:Nat}{xs:List SV}{m:Nat}{R:List Nat}{Q:SV→Hp→Prop}(h1:SB Tryz.prog f xs (aR n m R::H0) k 0 Q)(ha:SV.aF (fun z=>(lk (aR n m R::H0) z).isSome) xs=true)
  (hq:∀ r F,Q r F→(∀ q,r.ok q=true)∧∃ R',F=aR n m R'::H0):SC Tryz.prog f xs (aR n m R::H0) k 0 Q:=by
 have hall:∀ R':List Nat,Hp.ok (fun z=>(lk (aR n m R::H0) z).isSome) (aR n m R'::H0)=true:=fun R'=>kG (by simp [af]) (jc _ R') (Hp.gw (fun m hm=>by
  rw [af]
  split
  ·rfl
  ·exact hm) hc.cl)
 refine h1.here (fun z=>(lk (aR n m R::H0) z).isSome) (fun z hz e=>by rw [e] at hz;cases hz) ha (hall R) ?_
 intro r F hQ _ _
 obtain ⟨q1,R',rfl⟩:=hq r F hQ
 exact ⟨q1 _,Hp.gw (fun m hm=>by rw [hm];rfl) (hall R')⟩
theorem jg (h:At H0 n k)(hc:jV Tryz.prog g first H0 c D)(m:Nat)(R:List Nat):SV.aF (fun z=>(lk (aR n m R::H0) z).isSome) first=true:=SV.fq (fun m hm=>by
 rw [af]
 split
 ·rfl
 ·exact hm) _ hc.fo
variable (hc:jV Tryz.prog g first H0 c D) (ha:At H0 n k)
include hc ha
set_option maxHeartbeats 4000000 in
theorem y_ {m:Nat}{R:List Nat}(hR:Rw D R)(hm:R.length=m)(a b:Nat)(hab:a≤m)(hb:b≤m)(hl:m<256):
  SB Tryz.prog slices_insertionSortCmpFunc_int.f [.gs n m,i64 a,i64 b,gj g first] (aR n m R::H0) k 0 fun r F=>r= .cW []∧∃ R',ek a b R R'∧gH c R' a b∧F=aR n m R'::H0:=by
 have o1:=ha.fo hc
 have hn:=ha.lt
 refine slices_insertionSortCmpFunc_int.enter (by simp [SV.ok,SV.aF,o1,hn]) (ha.mC m R) (by simp [SV.aF]) ?_
 dsimp only [slices_insertionSortCmpFunc_int.s,Co.M,Co.G,Co.J,Co.H,Co.N,Co.F,Co.C,Co.Z,Co.B,Co.b8,Co.aJ,Co.b_,Co.i6,Co.z8,Co.cn]
 have w1:IntKind.i64.wrap ((a:Int)+1)=((a+1:Nat):Int):=wrap_i64 _ (by omega)
 refine SW.seq ?_
 refine SW.g0 [0,1,2,3,8,9,14,34] mixed (w1) ?_
 refine SW.block ?_
 refine SW.loop (α:={x:Nat×List Nat // a+1≤x.1∧(x.1≤b∨x.1=a+1)∧ek a b R x.2∧gH c x.2 a x.1})
  (fun x=>⟨[(8,i64 (x.1.1:Nat)),(0,.gs n m),(1,i64 a),(2,i64 b),(3,gj g first)],(n,.arr 3 1 m (pc x.1.2))::H0,k⟩) (fun x=>b - x.1.1)
  ⟨(a+1,R),by omega,.inr rfl,.refl,gH.one (by omega)⟩ id ?_ ?_
 ·exact ha.weak hc m R (by simp [bf,List.lookup,SV.aP,SV.aH,SV.aM,SV.ok,SV.aF,o1,hn])
 rintro ⟨⟨i,R1⟩,hi1,hi2,hs,r_⟩
 simp only at hi1 hi2 hs r_
 dsimp only
 have nR:R1.length=R.length:=hs.len
 by_cases h:i<b
 ·have h1:decide ((i:Int)<b)=true:=by simp only [decide_eq_true_eq];omega
  have w2:IntKind.i64.wrap ((i:Int)+1)=((i+1:Nat):Int):=wrap_i64 _ (by omega)
  refine SW.seq (SW.seq ?_)
  refine SW.g0 [0,1,2,3,8,9,14,34] mixed (h1) ?_
  refine SW.aC rfl (SW.skip ?_)
  refine SW.seq (SW.block (SW.seq ?_))
  refine SW.g0 [0,1,2,3,8,9,14,34] mixed U ?_
  refine SW.block ?_
  refine SW.loop (α:={x:Nat×List Nat // a≤x.1∧x.1≤i∧ek a b R x.2∧Ins c x.2 a x.1 i})
   (fun x=>⟨[(9,i64 (x.1.1:Nat)),(8,i64 i),(0,.gs n m),(1,i64 a),(2,i64 b),(3,gj g first)],(n,.arr 3 1 m (pc x.1.2))::H0,k⟩) (fun x=>x.1.1)
   ⟨(i,R1),by omega,Nat.le_refl _,hs,Ins.start r_⟩ id ?_ ?_
  ·exact ha.weak hc m R1 (by simp [bf,List.lookup,SV.aP,SV.aH,SV.aM,SV.ok,SV.aF,o1,hn])
  rintro ⟨⟨j,R2⟩,hj1,hj2,hs2,hin⟩
  simp only at hj1 hj2 hs2 hin
  dsimp only
  have pR:R2.length=R.length:=hs2.len
  have hR2:=hR.s5 hs2 (by omega)
  have goOn:(j=a∨ ¬ Lt c R2 j (j - 1))→∃ (z:{x:Nat×List Nat // a+1≤x.1∧(x.1≤b∨x.1=a+1)∧ek a b R x.2∧gH c x.2 a x.1}),z.1=(i+1,R2):=fun hd=>
   ⟨⟨(i+1,R2),by show a+1≤i+1;omega,.inl (by show i+1≤b;omega),hs2,Ins.done hc.tot hR2 hin hj1 hj2 (by show i<R2.length;omega) hd⟩,rfl⟩
  by_cases hj:a<j
  ·have h2:decide ((j:Int)>a)=true:=by simp only [decide_eq_true_eq];omega
   have w3:IntKind.i64.wrap ((j:Int) - 1)=((j - 1:Nat):Int):=by
    rw [show (j:Int) - 1=((j - 1:Nat):Int) by omega]
    exact wrap_i64 _ (by omega)
   have hx:=bg (R:=R2) (i:=j) (by omega)
   have hy:=bg (R:=R2) (i:=j - 1) (by omega)
   have cT:=hc.call (ge R2 j) (ge R2 (j - 1)) k (hR2.all _ (cE (by omega))) (hR2.all _ (cE (by omega))) ha.ok
   have e3:bV (pc R2) j [i64 (ge R2 (j - 1):Nat)]=pc (R2.set j (ge R2 (j - 1))):=dm _ _ _
   have e4:bV (pc (R2.set j (ge R2 (j - 1)))) (j - 1) [i64 (ge R2 j:Nat)]=pc (swp R2 j (j - 1)):=dm _ _ _
   refine SW.seq (SW.seq ?_)
   rcases hbb:decide (c (ge R2 j) (ge R2 (j - 1))<0) with _ | _
   ·refine SW.g1 [0,1,2,3,8,9,14,34] mixed (And.intro (h2) (And.intro (w3) (And.intro (aO hx) (And.intro (aO hy) (hbb))))) cT ?_
    refine SW.ay rfl (SW.exit ?_)
    refine SW.g0 [0,1,2,3,8,9,14,34] mixed (w2) ?_
    obtain ⟨z,hz⟩:=goOn (.inr (by unfold Lt;simpa using hbb))
    refine ⟨z,id,by rw [hz];show b - (i+1)<b - i;omega,?_⟩
    rw [hz]
    exact ha.weak hc m R2 (by simp [bf,List.lookup,SV.aP,SV.aH,SV.aM,SV.ok,SV.aF,o1,hn])
   ·refine SW.g1 [0,1,2,3,8,9,14,34] mixed (And.intro (h2) (And.intro (w3) (And.intro (aO hx) (And.intro (aO hy) (hbb))))) cT ?_
    refine SW.aC rfl (SW.skip ?_)
    refine SW.seq (SW.block ?_)
    refine SW.g0 [0,1,2,3,8,9,14,34] mixed (And.intro (w3) (And.intro (aO hx) (And.intro (aO hy) (And.intro (e3) (e4))))) ?_
    refine SW.g0 [0,1,2,3,8,9,14,34] mixed (w3) ?_
    refine ⟨⟨(j - 1,swp R2 j (j - 1)),by show a≤j - 1;omega,by show j - 1≤i;omega,hs2.step hj1 (by omega) (by omega) (by omega),hin.next hj hj2 (by omega) (by unfold Lt;simpa using hbb)⟩,id,by show j - 1<j;omega,?_⟩
    exact ha.weak hc m (swp R2 j (j - 1)) (by simp [bf,List.lookup,SV.aP,SV.aH,SV.aM,SV.ok,SV.aF,o1,hn])
  ·have h2:decide ((j:Int)>a)=false:=by simp only [decide_eq_false_iff_not];omega
   refine SW.seq (SW.seq ?_)
   refine SW.g0 [0,1,2,3,8,9,14,34] mixed (h2) ?_
   refine SW.ay rfl (SW.exit ?_)
   refine SW.g0 [0,1,2,3,8,9,14,34] mixed (w2) ?_
   obtain ⟨z,hz⟩:=goOn (.inl (by omega))
   refine ⟨z,id,by rw [hz];show b - (i+1)<b - i;omega,?_⟩
   rw [hz]
   exact ha.weak hc m R2 (by simp [bf,List.lookup,SV.aP,SV.aH,SV.aM,SV.ok,SV.aF,o1,hn])
 ·have h1:decide ((i:Int)<b)=false:=by simp only [decide_eq_false_iff_not];omega
  refine SW.seq (SW.seq ?_)
  refine SW.g0 [0,1,2,3,8,9,14,34] mixed (h1) ?_
  refine SW.ay rfl (SW.exit ?_)
  have fin:∀ env,Go.Sl.Fin k 0 slices_insertionSortCmpFunc_int.rv (fun r F=>r= .cW []∧∃ R',ek a b R R'∧gH c R' a b∧F=aR n m R'::H0) ⟨env,(n,.arr 3 1 m (pc R1))::H0,k⟩:=fun env=>
   End.mk (aR n m R1::H0) (h3:=fun _ _ h=>h) (h4:=⟨rfl,R1,hs,fun p q k1 k2 k3=>r_ p q k1 k2 (by omega),rfl⟩) (h6:=by simpa using ha.mC m R1)
  exact fin _
theorem za {m:Nat}{R:List Nat}(hR:Rw D R)(hm:R.length=m)(a b:Nat)(hab:a≤m)(hb:b≤m)(hl:m<256):
  SC Tryz.prog slices_insertionSortCmpFunc_int.f [.gs n m,i64 a,i64 b,gj g first] (aR n m R::H0) k 0 fun r F=>r= .cW []∧∃ R',ek a b R R'∧gH c R' a b∧F=aR n m R'::H0:=
 ha.here hc (y_ hc ha hR hm a b hab hb hl) (by have h:=jg ha hc m R;simp only [af] at h;simp [SV.aF,SV.ok,af,h]) fun r F ⟨h1,R',_,_,h2⟩=>⟨by rw [h1];intro q;rfl,R',h2⟩
end
end
section
attribute [local irreducible] SW RW bB SC ai aa
abbrev bx (w s:Nat):Nat×Ob:=(w,.box 3 [i64 (s:Int)])
section
variable {g:Nat} {first:List SV} {H0:Hp} {c:Nat→Nat→Int} {D:Nat→Prop} {n k w:Nat}
theorem At.box (h:At H0 n k)(hw:lk H0 w=none)(hwn:w≠n)(hwk:w<k)(s:Nat):At (bx w s::H0) n k:=⟨by rw [af,if_neg (fun e=>hwn e.symm)];exact h.no,h.lt,kG (by simpa using hwk) rfl h.ok⟩
theorem jV.box (h:jV Tryz.prog g first H0 c D)(hw:lk H0 w=none)(s:Nat):jV Tryz.prog g first (bx w s::H0) c D where
 tot:=h.tot
 call x y k h1 h2 h3:=h.call x y k h1 h2 (by
  simp only [Hp.ok,List.all_cons,Bool.and_eq_true] at h3
  exact h3.2)
 fo:=SV.fq (fun z hz=>by
  rw [af]
  split
  ·rfl
  ·exact hz) _ h.fo
 nd:=lW hw h.nd
 cl:=kG (by simp [af]) rfl (Hp.gw (fun z hz=>by
  rw [af]
  split
  ·rfl
  ·exact hz) h.cl)
theorem At.By (h:At H0 n k)(hc:jV Tryz.prog g first H0 c D)(hw:lk H0 w=none)(hwn:w≠n)(hwk:w<k){f:Nat}{xs:List SV}{m s:Nat}{R:List Nat}{Q:SV→Hp→Prop}(h1:SB Tryz.prog f xs (aR n m R::bx w s::H0) k 0 Q)
  (h0:SV.aF (fun z=>(lk (aR n m R::bx w s::H0) z).isSome) xs=true)
  (hq:∀ r F,Q r F→(∀ q,r.ok q=true)∧∃ R' s',F=aR n m R'::bx w s'::H0):SC Tryz.prog f xs (aR n m R::bx w s::H0) k 0 Q:=by
 have hall:∀ (R':List Nat) (s':Nat),Hp.ok (fun z=>(lk (aR n m R::bx w s::H0) z).isSome) (aR n m R'::bx w s'::H0)=true:=fun R' s'=>kG (by simp [af]) (jc _ R') (kG (by simp [af,hwn]) rfl (Hp.gw (fun z hz=>by
  rw [af,af]
  split
  ·rfl
  ·split
   ·rfl
   ·exact hz) hc.cl))
 refine h1.here (fun z=>(lk (aR n m R::bx w s::H0) z).isSome) (fun z hz e=>by rw [e] at hz;cases hz) h0 (hall R s) ?_
 intro r F hQ _ _
 obtain ⟨q1,R',s',rfl⟩:=hq r F hQ
 exact ⟨q1 _,Hp.gw (fun z hz=>by rw [hz];rfl) (hall R' s')⟩
theorem vu {m:Nat}{R R':List Nat}{s s':Nat}(hc:jV Tryz.prog g first H0 c D)(ha:At H0 n k)(hw:lk H0 w=none)(hwn:w≠n):bn false (aR n m R::bx w s::H0) (aR n m R::bx w s::H0) (aR n m R'::bx w s'::H0)=aR n m R'::bx w s'::H0:=by
 exact vg (pre:=[]) rfl (lW (by rw [af,if_neg (fun e=>hwn e.symm)];exact ha.no) (lW hw hc.nd))
variable (hc:jV Tryz.prog g first H0 c D) (ha:At H0 n k) (hw:lk H0 w=none) (hwn:w≠n) (hwk:w<k)
include hc ha hw hwn hwk
set_option maxHeartbeats 4000000 in
theorem zb {m:Nat}{R:List Nat}(hR:Rw D R)(hm:R.length=m)(a b s:Nat)(hab:a<m)(hb:b<m)(hs:s<256):
  SB Tryz.prog slices_order2CmpFunc_int.f [.gs n m,i64 a,i64 b,.ptr w 0,gj g first] (aR n m R::bx w s::H0) k 0 fun r F=>∃ x y s',r= .cW [i64 (x:Nat),i64 (y:Nat)]∧((x=a∧y=b)∨(x=b∧y=a))∧s'≤s+1∧F=aR n m R::bx w s'::H0:=by
 have o1:=ha.fo hc
 have hn:=ha.lt
 have hA:=ha.box hw hwn hwk
 refine slices_order2CmpFunc_int.enter (by simp [SV.ok,SV.aF,o1,hn,hwk]) ((hA s).mC m R) (by simp [SV.aF]) ?_
 dsimp only [slices_order2CmpFunc_int.s,Co.M,Co.G,Co.J,Co.H,Co.N,Co.F,Co.C,Co.Z,Co.B,Co.b8,Co.aJ,Co.b_,Co.i6,Co.z8,Co.cn]
 have f1:=dY hwn
 have hx:=bg (R:=R) (i:=a) (by omega)
 have hy:=bg (R:=R) (i:=b) (by omega)
 have cT:=hc.call (ge R b) (ge R a) k (hR.all _ (cE (by omega))) (hR.all _ (cE (by omega))) ha.ok
 have w1:IntKind.i64.wrap ((s:Int)+1)=((s+1:Nat):Int):=wrap_i64 _ (by omega)
 refine SW.seq ?_
 refine SW.g0 [0,1,2,3,4,10,11,22] mixed U ?_
 refine SW.seq (SW.seq ?_)
 rcases hbb:decide (c (ge R b) (ge R a)<0) with _ | _
 ·refine SW.g1 [0,1,2,3,4,10,11,22] mixed (And.intro (f1) (And.intro (aO hx) (And.intro (aO hy) (hbb)))) cT ?_
  refine SW.ay rfl (SW.skip ?_)
  refine SW.seq ?_
  refine SW.g0 [0,1,2,3,4,10,11,22] mixed U ?_
  refine SW.ret ?_
  exact End.mk (aR n m R::bx w s::H0) (h3:=fun _ _ h=>h) (h4:=⟨a,b,s,rfl,.inl ⟨rfl,rfl⟩,by omega,rfl⟩) (h6:=by simpa using (hA s).mC m R)
 ·refine SW.g1 [0,1,2,3,4,10,11,22] mixed (And.intro (f1) (And.intro (aO hx) (And.intro (aO hy) (hbb)))) cT ?_
  refine SW.aC rfl (SW.seq ?_)
  refine SW.g0 [0,1,2,3,4,10,11,22] mixed (And.intro (f1) (w1)) ?_
  refine SW.seq ?_
  refine SW.g0 [0,1,2,3,4,10,11,22] mixed U ?_
  refine SW.ret ?_
  exact End.mk (aR n m R::bx w (s+1)::H0) (h3:=fun _ _ h=>h) (h4:=⟨b,a,s+1,rfl,.inr ⟨rfl,rfl⟩,Nat.le_refl _,rfl⟩) (h6:=by simpa using (hA (s+1)).mC m R)
theorem oE {m:Nat}{R:List Nat}(hR:Rw D R)(hm:R.length=m)(a b s:Nat)(hab:a<m)(hb:b<m)(hs:s<256):
  SC Tryz.prog slices_order2CmpFunc_int.f [.gs n m,i64 a,i64 b,.ptr w 0,gj g first] (aR n m R::bx w s::H0) k 0 fun r F=>∃ x y s',r= .cW [i64 (x:Nat),i64 (y:Nat)]∧((x=a∧y=b)∨(x=b∧y=a))∧s'≤s+1∧F=aR n m R::bx w s'::H0:=
 ha.By hc hw hwn hwk (zb hc ha hw hwn hwk hR hm a b s hab hb hs) (by have h:=jg (ha.box hw hwn hwk s) (hc.box hw s) m R;simp only [af] at h;simp [SV.aF,SV.ok,af,h,hwn]) fun r F ⟨x,y,s',h1,_,_,h2⟩=>⟨by rw [h1];intro q;rfl,R,s',h2⟩
set_option maxHeartbeats 4000000 in
theorem zc {m:Nat}{R:List Nat}(hR:Rw D R)(hm:R.length=m)(a b d s:Nat)(h1:a<m)(h2:b<m)(h3:d<m)(hs:s<250):
  SB Tryz.prog slices_medianCmpFunc_int.f [.gs n m,i64 a,i64 b,i64 d,.ptr w 0,gj g first] (aR n m R::bx w s::H0) k 0 fun r F=>∃ x s',r=i64 (x:Nat)∧(x=a∨x=b∨x=d)∧s'≤s+3∧F=aR n m R::bx w s'::H0:=by
 have o1:=ha.fo hc
 have hn:=ha.lt
 have hA:=ha.box hw hwn hwk
 refine slices_medianCmpFunc_int.enter (by simp [SV.ok,SV.aF,o1,hn,hwk]) ((hA s).mC m R) (by simp [SV.aF]) ?_
 dsimp only [slices_medianCmpFunc_int.s,Co.M,Co.G,Co.J,Co.H,Co.N,Co.F,Co.C,Co.Z,Co.B,Co.b8,Co.aJ,Co.b_,Co.i6,Co.z8,Co.cn]
 have f1:=dY hwn
 refine SW.seq ?_
 refine SW.g0 [0,1,2,3,4,5,12] mixed U ?_
 refine SW.seq (SW.lp ?_)
 (repeat (first | refine aK.op U (h:= ?_) | refine aK.aL U (h:= ?_) | refine aK.skip (h:= ?_)))
 refine aK.aG (oE hc ha hw hwn hwk hR hm a b s h1 h2 (by omega)) (fun _ _ h=>h) (h:= ?_)
 rintro _ _ ⟨x,y,s1,rfl,hxy,hs1,rfl⟩
 rw [vu hc ha hw hwn]
 (repeat (first | refine aK.op U (h:= ?_) | refine aK.aL U (h:= ?_) | refine aK.skip (h:= ?_)))
 refine aK.nil ?_
 refine SW.seq (SW.lp ?_)
 (repeat (first | refine aK.op U (h:= ?_) | refine aK.aL U (h:= ?_) | refine aK.skip (h:= ?_)))
 refine aK.aG (oE hc ha hw hwn hwk hR hm y d s1 (by omega) h3 (by omega)) (fun _ _ h=>h) (h:= ?_)
 rintro _ _ ⟨y1,z,s2,rfl,hyz,hs2,rfl⟩
 rw [vu hc ha hw hwn]
 (repeat (first | refine aK.op U (h:= ?_) | refine aK.aL U (h:= ?_) | refine aK.skip (h:= ?_)))
 refine aK.nil ?_
 refine SW.seq (SW.lp ?_)
 (repeat (first | refine aK.op U (h:= ?_) | refine aK.aL U (h:= ?_) | refine aK.skip (h:= ?_)))
 refine aK.aG (oE hc ha hw hwn hwk hR hm x y1 s2 (by omega) (by omega) (by omega)) (fun _ _ h=>h) (h:= ?_)
 rintro _ _ ⟨x1,y2,s3,rfl,hxy2,hs3,rfl⟩
 rw [vu hc ha hw hwn]
 (repeat (first | refine aK.op U (h:= ?_) | refine aK.aL U (h:= ?_) | refine aK.skip (h:= ?_)))
 refine aK.nil ?_
 refine SW.seq (SW.lp ?_)
 (repeat (first | refine aK.op U (h:= ?_) | refine aK.aL U (h:= ?_) | refine aK.skip (h:= ?_)))
 refine aK.nil ?_
 refine SW.ret ?_
 exact End.mk (aR n m R::bx w s3::H0) (h3:=fun _ _ h=>h) (h4:=⟨y2,s3,rfl,by omega,by omega,rfl⟩) (h6:=by simpa using (hA s3).mC m R)
theorem th {m:Nat}{R:List Nat}(hR:Rw D R)(hm:R.length=m)(a b d s:Nat)(h1:a<m)(h2:b<m)(h3:d<m)(hs:s<250):
  SC Tryz.prog slices_medianCmpFunc_int.f [.gs n m,i64 a,i64 b,i64 d,.ptr w 0,gj g first] (aR n m R::bx w s::H0) k 0 fun r F=>∃ x s',r=i64 (x:Nat)∧(x=a∨x=b∨x=d)∧s'≤s+3∧F=aR n m R::bx w s'::H0:=
 ha.By hc hw hwn hwk (zc hc ha hw hwn hwk hR hm a b d s h1 h2 h3 hs) (by have h:=jg (ha.box hw hwn hwk s) (hc.box hw s) m R;simp only [af] at h;simp [SV.aF,SV.ok,af,h,hwn]) fun r F ⟨x,s',h1,_,_,h2⟩=>⟨by rw [h1];intro q;rfl,R,s',h2⟩
set_option maxHeartbeats 4000000 in
theorem ze {m:Nat}{R:List Nat}(hR:Rw D R)(hm:R.length=m)(hl:m<256)(a s:Nat)(h0:0<a)(h1:a+1<m)(hs:s<250):
  SB Tryz.prog slices_medianAdjacentCmpFunc_int.f [.gs n m,i64 a,.ptr w 0,gj g first] (aR n m R::bx w s::H0) k 0 fun r F=>∃ x s',r=i64 (x:Nat)∧(x=a - 1∨x=a∨x=a+1)∧s'≤s+3∧F=aR n m R::bx w s'::H0:=by
 have o1:=ha.fo hc
 have hn:=ha.lt
 have hA:=ha.box hw hwn hwk
 refine slices_medianAdjacentCmpFunc_int.enter (by simp [SV.ok,SV.aF,o1,hn,hwk]) ((hA s).mC m R) (by simp [SV.aF]) ?_
 dsimp only [slices_medianAdjacentCmpFunc_int.s,Co.M,Co.G,Co.J,Co.H,Co.N,Co.F,Co.C,Co.Z,Co.B,Co.b8,Co.aJ,Co.b_,Co.i6,Co.z8,Co.cn]
 have f1:=dY hwn
 have w1:IntKind.i64.wrap ((a:Int)+1)=((a+1:Nat):Int):=wrap_i64 _ (by omega)
 have w2:IntKind.i64.wrap ((a:Int) - 1)=((a - 1:Nat):Int):=by
  rw [show (a:Int) - 1=((a - 1:Nat):Int) by omega]
  exact wrap_i64 _ (by omega)
 refine SW.seq ?_
 refine SW.g0 [0,1,2,3,8] mixed U ?_
 refine SW.seq (SW.lp ?_)
 (repeat (first | refine aK.op (And.intro (w1) (w2)) (h:= ?_) | refine aK.aL (And.intro (w1) (w2)) (h:= ?_) | refine aK.skip (h:= ?_)))
 refine aK.aG (th hc ha hw hwn hwk hR hm (a - 1) a (a+1) s (by omega) (by omega) (by omega) hs) (fun _ _ h=>h) (h:= ?_)
 rintro _ _ ⟨x,s1,rfl,hx,hs1,rfl⟩
 rw [vu hc ha hw hwn]
 (repeat (first | refine aK.op U (h:= ?_) | refine aK.aL U (h:= ?_) | refine aK.skip (h:= ?_)))
 refine aK.nil ?_
 refine SW.ret ?_
 exact End.mk (aR n m R::bx w s1::H0) (h3:=fun _ _ h=>h) (h4:=⟨x,s1,rfl,hx,hs1,rfl⟩) (h6:=by simpa using (hA s1).mC m R)
theorem oF {m:Nat}{R:List Nat}(hR:Rw D R)(hm:R.length=m)(hl:m<256)(a s:Nat)(h0:0<a)(h1:a+1<m)(hs:s<250):
  SC Tryz.prog slices_medianAdjacentCmpFunc_int.f [.gs n m,i64 a,.ptr w 0,gj g first] (aR n m R::bx w s::H0) k 0 fun r F=>∃ x s',r=i64 (x:Nat)∧(x=a - 1∨x=a∨x=a+1)∧s'≤s+3∧F=aR n m R::bx w s'::H0:=
 ha.By hc hw hwn hwk (ze hc ha hw hwn hwk hR hm hl a s h0 h1 hs) (by have h:=jg (ha.box hw hwn hwk s) (hc.box hw s) m R;simp only [af] at h;simp [SV.aF,SV.ok,af,h,hwn]) fun r F ⟨x,s',h1,_,_,h2⟩=>⟨by rw [h1];intro q;rfl,R,s',h2⟩
end
end
section
attribute [local irreducible] SW RW bB SC ai aa
theorem SW.gE {N k0:Nat}{st:St}{Q:Exit→St→Prop}{x y:cr}{α:Type}(S:α→St)(h1:Sl.SW Tryz.prog N k0 x st fun e st'=>match e with | .normal=>∃ a,bk k0 st' (S a) id | e=>Q e st')(h2:∀ a,Sl.SW Tryz.prog N k0 y (S a) Q):Sl.SW Tryz.prog N k0 (.seq x y) st Q:=by
 refine SW.seq (h1.mono fun e st' h=> ?_)
 cases e <;> first
  | exact h
  | (obtain ⟨a,ha⟩:=h;exact SW.weak id ha (h2 a))
theorem pM {i j:Nat}(h:j≤i)(hi:i<256):IntKind.i64.wrap ((i:Int) - (j:Int))=((i - j:Nat):Int):=by
 rw [show (i:Int) - (j:Int)=((i - j:Nat):Int) by omega]
 exact wrap_i64 _ (by omega)
theorem jd {i:Nat}(h:1≤i)(hi:i<256):IntKind.i64.wrap ((i:Int) - 1)=((i - 1:Nat):Int):=pM h hi
theorem dT {p:Prop}[Decidable p](h:p):decide p=true:=decide_eq_true h
theorem dF {p:Prop}[Decidable p](h: ¬ p):decide p=false:=decide_eq_false h
section
variable {g:Nat} {first:List SV} {H0:Hp} {c:Nat→Nat→Int} {D:Nat→Prop} {n k:Nat}
variable (hc:jV Tryz.prog g first H0 c D) (ha:At H0 n k)
include hc ha
set_option maxHeartbeats 4000000 in
theorem DK {m:Nat}{R:List Nat}(hR:Rw D R)(hm:R.length=m)(a b p:Nat)(hap:a≤p)(hpb:p<b)(hb:b≤m)(hl:m<256):
  SB Tryz.prog slices_partitionCmpFunc_int.f [.gs n m,i64 a,i64 b,i64 p,gj g first] (aR n m R::H0) k 0 fun r F=>∃ q ap R',r= .cW [i64 (q:Nat),bl ap]∧a≤q∧q<b∧ek a b R R'∧vi c R' a q b∧F=aR n m R'::H0:=by
 have o1:=ha.fo hc
 have hn:=ha.lt
 refine slices_partitionCmpFunc_int.enter (by simp [SV.ok,SV.aF,o1,hn]) (ha.mC m R) (by simp [SV.aF]) ?_
 dsimp only [slices_partitionCmpFunc_int.s,Co.M,Co.G,Co.J,Co.H,Co.N,Co.F,Co.C,Co.Z,Co.B,Co.b8,Co.aJ,Co.b_,Co.i6,Co.z8,Co.cn]
 have hx:=bg (R:=R) (i:=a) (by omega)
 have hy:=bg (R:=R) (i:=p) (by omega)
 have e3:bV (pc R) a [i64 (ge R p:Nat)]=pc (R.set a (ge R p)):=dm _ _ _
 have e4:bV (pc (R.set a (ge R p))) p [i64 (ge R a:Nat)]=pc (swp R a p):=dm _ _ _
 have w1:=jd (i:=b) (by omega) (by omega)
 have hs0:ek a b R (swp R a p):=ek.one (Nat.le_refl _) (by omega) hap hpb
 refine SW.seq ?_
 refine SW.g0 [0,1,2,3,4,10,11,12,13,47,66,71,120,139,144] mixed U ?_
 refine SW.seq ?_
 refine SW.g0 [0,1,2,3,4,10,11,12,13,47,66,71,120,139,144] mixed (And.intro (aO hx) (And.intro (aO hy) (And.intro (e3) (e4)))) ?_
 refine SW.seq ?_
 refine SW.g0 [0,1,2,3,4,10,11,12,13,47,66,71,120,139,144] mixed (w1) ?_
 generalize swp R a p=R0 at hs0
 have hl0:R0.length=R.length:=hs0.len
 have hRR:Rw D R0:=hR.s5 hs0 (by omega)
 generalize hj0:b - 1=j0
 refine SW.gE (α:={i:Nat // (a+1)≤i∧i≤j0+1∧lY c R0 a i j0 b∧(j0<i∨ ¬ Lt c R0 i a)}) (fun i=>⟨[(12,i64 (i.1:Nat)),(13,i64 j0),(10,.d (.int .i64 0)),(11,.d (.bool false)),(0,.gs n m),(1,i64 a),(4,gj g first)],(n,.arr 3 1 m (pc R0))::H0,k⟩) ?_ ?_
 ·refine SW.block ?_
  refine SW.loop (α:={i:Nat // (a+1)≤i∧i≤j0+1∧lY c R0 a i j0 b}) (fun i=>⟨[(12,i64 (i.1:Nat)),(13,i64 j0),(10,.d (.int .i64 0)),(11,.d (.bool false)),(0,.gs n m),(1,i64 a),(4,gj g first)],(n,.arr 3 1 m (pc R0))::H0,k⟩) (fun i=>j0+1 - i.1) ⟨(a+1),Nat.le_refl _,by omega,by rw [← hj0];exact lY.start⟩ id ?_ ?_
  ·exact ha.weak hc m R0 (by simp [bf,List.lookup,SV.aP,SV.aH,SV.aM,SV.ok,SV.aF,o1,hn])
  rintro ⟨i,q1,q2,q3⟩
  dsimp only
  by_cases h:i≤j0
  ·have h1:=dT (p:=(i:Int)≤(j0:Nat)) (by omega)
   have hx:=bg (R:=R0) (i:=i) (by omega)
   have hy:=bg (R:=R0) (i:=a) (by omega)
   have cT:=hc.call (ge R0 i) (ge R0 a) k (hRR.all _ (cE (by omega))) (hRR.all _ (cE (by omega))) ha.ok
   refine SW.seq (SW.seq ?_)
   rcases hbb:decide (c (ge R0 i) (ge R0 a)<0) with _ | _
   ·refine SW.g1 [0,1,2,3,4,10,11,12,13,47,66,71,120,139,144] mixed (And.intro (h1) (And.intro (aO hx) (And.intro (aO hy) (hbb)))) cT ?_
    refine SW.ay rfl (SW.exit ?_)
    refine ⟨⟨i,q1,q2,q3,.inr (by unfold Lt;simpa using hbb)⟩,?_⟩
    exact ha.weak hc m R0 (by simp [bf,List.lookup,SV.aP,SV.aH,SV.aM,SV.ok,SV.aF,o1,hn])
   ·refine SW.g1 [0,1,2,3,4,10,11,12,13,47,66,71,120,139,144] mixed (And.intro (h1) (And.intro (aO hx) (And.intro (aO hy) (hbb)))) cT ?_
    refine SW.aC rfl (SW.skip ?_)
    refine SW.block ?_
    refine SW.g0 [0,1,2,3,4,10,11,12,13,47,66,71,120,139,144] mixed U ?_
    refine ⟨⟨i+1,by omega,by omega,q3.up (by unfold Lt;simpa using hbb)⟩,id,by show j0+1 - (i+1)<j0+1 - i;omega,?_⟩
    exact ha.weak hc m R0 (by simp [bf,List.lookup,SV.aP,SV.aH,SV.aM,SV.ok,SV.aF,o1,hn])
  ·have h1:=dF (p:=(i:Int)≤(j0:Nat)) (by omega)
   refine SW.seq (SW.seq ?_)
   refine SW.g0 [0,1,2,3,4,10,11,12,13,47,66,71,120,139,144] mixed (h1) ?_
   refine SW.ay rfl (SW.exit ?_)
   refine ⟨⟨i,q1,q2,q3,.inl (by omega)⟩,?_⟩
   exact ha.weak hc m R0 (by simp [bf,List.lookup,SV.aP,SV.aH,SV.aM,SV.ok,SV.aF,o1,hn])
 rintro ⟨i,i1,i2,i3,i4⟩
 dsimp only
 refine SW.gE (α:={j:Nat // j≤j0∧a≤j∧i≤j+1∧lY c R0 a i j b∧(j<i∨Lt c R0 j a)}) (fun j=>⟨[(12,i64 i),(13,i64 (j.1:Nat)),(10,.d (.int .i64 0)),(11,.d (.bool false)),(0,.gs n m),(1,i64 a),(4,gj g first)],(n,.arr 3 1 m (pc R0))::H0,k⟩) ?_ ?_
 ·refine SW.block ?_
  refine SW.loop (α:={j:Nat // j≤j0∧a≤j∧i≤j+1∧lY c R0 a i j b}) (fun j=>⟨[(12,i64 i),(13,i64 (j.1:Nat)),(10,.d (.int .i64 0)),(11,.d (.bool false)),(0,.gs n m),(1,i64 a),(4,gj g first)],(n,.arr 3 1 m (pc R0))::H0,k⟩) (fun j=>j.1) ⟨j0,Nat.le_refl _,by omega,by omega,i3⟩ id ?_ ?_
  ·exact ha.weak hc m R0 (by simp [bf,List.lookup,SV.aP,SV.aH,SV.aM,SV.ok,SV.aF,o1,hn])
  rintro ⟨j,q1,q2,q3,q4⟩
  dsimp only
  by_cases h:i≤j
  ·have h1:=dT (p:=((i:Nat):Int)≤(j:Nat)) (by omega)
   have hx:=bg (R:=R0) (i:=j) (by omega)
   have hy:=bg (R:=R0) (i:=a) (by omega)
   have cT:=hc.call (ge R0 j) (ge R0 a) k (hRR.all _ (cE (by omega))) (hRR.all _ (cE (by omega))) ha.ok
   have w3:=jd (i:=j) (by omega) (by omega)
   refine SW.seq (SW.seq ?_)
   rcases hbb:decide (c (ge R0 j) (ge R0 a)<0) with _ | _
   ·refine SW.g1 [0,1,2,3,4,10,11,12,13,47,66,71,120,139,144] mixed (And.intro (h1) (And.intro (aO hx) (And.intro (aO hy) (hbb)))) cT ?_
    refine SW.aC rfl (SW.skip ?_)
    refine SW.block ?_
    refine SW.g0 [0,1,2,3,4,10,11,12,13,47,66,71,120,139,144] mixed (w3) ?_
    have hd:lY c R0 a i (j - 1) b:=lY.down hc.tot (j:=j - 1) hRR (by rw [Nat.sub_add_cancel (by omega)];exact q4) (by omega) (by omega) (by rw [Nat.sub_add_cancel (by omega)];unfold Lt;simpa using hbb)
    refine ⟨⟨j - 1,by omega,by omega,by omega,hd⟩,id,by show j - 1<j;omega,?_⟩
    exact ha.weak hc m R0 (by simp [bf,List.lookup,SV.aP,SV.aH,SV.aM,SV.ok,SV.aF,o1,hn])
   ·refine SW.g1 [0,1,2,3,4,10,11,12,13,47,66,71,120,139,144] mixed (And.intro (h1) (And.intro (aO hx) (And.intro (aO hy) (hbb)))) cT ?_
    refine SW.ay rfl (SW.exit ?_)
    refine ⟨⟨j,q1,q2,q3,q4,.inr (by unfold Lt;simpa using hbb)⟩,?_⟩
    exact ha.weak hc m R0 (by simp [bf,List.lookup,SV.aP,SV.aH,SV.aM,SV.ok,SV.aF,o1,hn])
  ·have h1:=dF (p:=((i:Nat):Int)≤(j:Nat)) (by omega)
   refine SW.seq (SW.seq ?_)
   refine SW.g0 [0,1,2,3,4,10,11,12,13,47,66,71,120,139,144] mixed (h1) ?_
   refine SW.ay rfl (SW.exit ?_)
   refine ⟨⟨j,q1,q2,q3,q4,.inl (by omega)⟩,?_⟩
   exact ha.weak hc m R0 (by simp [bf,List.lookup,SV.aP,SV.aH,SV.aM,SV.ok,SV.aF,o1,hn])
 rintro ⟨j,j1,j2,j3,j4,j5⟩
 dsimp only
 by_cases hij:j<i
 ·have h1:=dT (p:=(i:Int)>(j:Nat)) (by omega)
  have hx2:=bg (R:=R0) (i:=a) (by omega)
  have hy2:=bg (R:=R0) (i:=j) (by omega)
  have e5:bV (pc R0) j [i64 (ge R0 a:Nat)]=pc (R0.set j (ge R0 a)):=dm _ _ _
  have e6:bV (pc (R0.set j (ge R0 a))) a [i64 (ge R0 j:Nat)]=pc (swp R0 j a):=dm _ _ _
  refine SW.seq (SW.seq ?_)
  refine SW.g0 [0,1,2,3,4,10,11,12,13,47,66,71,120,139,144] mixed (h1) ?_
  refine SW.aC rfl ?_
  refine SW.seq ?_
  refine SW.g0 [0,1,2,3,4,10,11,12,13,47,66,71,120,139,144] mixed (And.intro (aO hx2) (And.intro (aO hy2) (And.intro (e5) (e6)))) ?_
  refine SW.seq ?_
  refine SW.g0 [0,1,2,3,4,10,11,12,13,47,66,71,120,139,144] mixed U ?_
  refine SW.ret ?_
  exact End.mk (aR n m (swp R0 j a)::H0) (h3:=fun _ _ h=>h) (h4:=⟨j,true,swp R0 j a,rfl,j2,by omega,hs0.step j2 (by omega) (Nat.le_refl _) (by omega),lY.done hc.tot hRR j4 (by omega) (by omega) (by omega) (by omega),rfl⟩) (h6:=by simpa using ha.mC m (swp R0 j a))
 ·have h1 :=dF (p:=(i:Int)>(j:Nat)) (by omega)
  have hx2:=bg (R:=R0) (i:=i) (by omega)
  have hy2:=bg (R:=R0) (i:=j) (by omega)
  have e5:bV (pc R0) i [i64 (ge R0 j:Nat)]=pc (R0.set i (ge R0 j)):=dm _ _ _
  have e6:bV (pc (R0.set i (ge R0 j))) j [i64 (ge R0 i:Nat)]=pc (swp R0 i j):=dm _ _ _
  have w2:=jd (i:=j) (by omega) (by omega)
  have hs1:ek a b R (swp R0 i j):=hs0.step (by omega) (by omega) (by omega) (by omega)
  have hp1:lY c (swp R0 i j) a (i+1) (j - 1) b:=lY.swap hc.tot hRR j4 (by omega) (by omega) (by omega) (by omega) (i4.resolve_left (by omega)) (j5.resolve_left (by omega))
  have hne:i<j:=by
   have h5:=j5.resolve_left (by omega)
   by_cases e:i=j
   ·subst e
    exact absurd h5 (i4.resolve_left (by omega))
   ·omega
  refine SW.seq (SW.seq ?_)
  refine SW.g0 [0,1,2,3,4,10,11,12,13,47,66,71,120,139,144] mixed (h1) ?_
  refine SW.ay rfl (SW.skip ?_)
  refine SW.seq ?_
  refine SW.g0 [0,1,2,3,4,10,11,12,13,47,66,71,120,139,144] mixed (And.intro (aO hx2) (And.intro (aO hy2) (And.intro (e5) (e6)))) ?_
  refine SW.seq ?_
  refine SW.g0 [0,1,2,3,4,10,11,12,13,47,66,71,120,139,144] mixed U ?_
  refine SW.seq ?_
  refine SW.g0 [0,1,2,3,4,10,11,12,13,47,66,71,120,139,144] mixed (w2) ?_
  refine SW.gE (α:={x:Nat×Nat×List Nat // a+1≤x.1∧x.1=x.2.1+1∧x.2.1<b∧a≤x.2.1∧ek a b R x.2.2∧lY c x.2.2 a x.1 x.2.1 b}) (fun x=>⟨[(12,i64 (x.1.1:Nat)),(13,i64 (x.1.2.1:Nat)),(10,.d (.int .i64 0)),(11,.d (.bool false)),(0,.gs n m),(1,i64 a),(4,gj g first)],(n,.arr 3 1 m (pc x.1.2.2))::H0,k⟩) ?_ ?_
  ·refine SW.block ?_
   refine SW.loop (α:={x:Nat×Nat×List Nat // a+1≤x.1∧x.1≤x.2.1+1∧x.2.1<b∧a≤x.2.1∧ek a b R x.2.2∧lY c x.2.2 a x.1 x.2.1 b}) (fun x=>⟨[(12,i64 (x.1.1:Nat)),(13,i64 (x.1.2.1:Nat)),(10,.d (.int .i64 0)),(11,.d (.bool false)),(0,.gs n m),(1,i64 a),(4,gj g first)],(n,.arr 3 1 m (pc x.1.2.2))::H0,k⟩) (fun x=>x.1.2.1+1 - x.1.1) ⟨(i+1,j - 1,swp R0 i j),by show a+1≤i+1;omega,by show i+1≤j - 1+1;omega,by show j - 1<b;omega,by show a≤j - 1;omega,hs1,hp1⟩ id ?_ ?_
   ·exact ha.weak hc m (swp R0 i j) (by simp [bf,List.lookup,SV.aP,SV.aH,SV.aM,SV.ok,SV.aF,o1,hn])
   clear hs1 hp1 hne w2 e5 e6 hx2 hy2 h1 hij j5 j4 j3 j2 j1 i4 i3 i2 i1 hRR hl0 hs0
   clear i j R0
   rintro ⟨⟨i0,jj,R1⟩,q1,q2,q3,q4,hs1,hp1⟩
   simp only at q1 q2 q3 q4 hs1 hp1
   dsimp only
   have nR:R1.length=R.length:=hs1.len
   have hRR:Rw D R1:=hR.s5 hs1 (by omega)
   refine SW.block ?_
   refine SW.gE (α:={i:Nat // i0≤i∧i≤jj+1∧lY c R1 a i jj b∧(jj<i∨ ¬ Lt c R1 i a)}) (fun i=>⟨[(12,i64 (i.1:Nat)),(13,i64 jj),(10,.d (.int .i64 0)),(11,.d (.bool false)),(0,.gs n m),(1,i64 a),(4,gj g first)],(n,.arr 3 1 m (pc R1))::H0,k⟩) ?_ ?_
   ·refine SW.block ?_
    refine SW.loop (α:={i:Nat // i0≤i∧i≤jj+1∧lY c R1 a i jj b}) (fun i=>⟨[(12,i64 (i.1:Nat)),(13,i64 jj),(10,.d (.int .i64 0)),(11,.d (.bool false)),(0,.gs n m),(1,i64 a),(4,gj g first)],(n,.arr 3 1 m (pc R1))::H0,k⟩) (fun i=>jj+1 - i.1) ⟨i0,Nat.le_refl _,by omega,hp1⟩ id ?_ ?_
    ·exact ha.weak hc m R1 (by simp [bf,List.lookup,SV.aP,SV.aH,SV.aM,SV.ok,SV.aF,o1,hn])
    rintro ⟨i,q1,q2,q3⟩
    dsimp only
    by_cases h:i≤jj
    ·have h1:=dT (p:=(i:Int)≤(jj:Nat)) (by omega)
     have hx:=bg (R:=R1) (i:=i) (by omega)
     have hy:=bg (R:=R1) (i:=a) (by omega)
     have cT:=hc.call (ge R1 i) (ge R1 a) k (hRR.all _ (cE (by omega))) (hRR.all _ (cE (by omega))) ha.ok
     refine SW.seq (SW.seq ?_)
     rcases hbb:decide (c (ge R1 i) (ge R1 a)<0) with _ | _
     ·refine SW.g1 [0,1,2,3,4,10,11,12,13,47,66,71,120,139,144] mixed (And.intro (h1) (And.intro (aO hx) (And.intro (aO hy) (hbb)))) cT ?_
      refine SW.ay rfl (SW.exit ?_)
      refine ⟨⟨i,q1,q2,q3,.inr (by unfold Lt;simpa using hbb)⟩,?_⟩
      exact ha.weak hc m R1 (by simp [bf,List.lookup,SV.aP,SV.aH,SV.aM,SV.ok,SV.aF,o1,hn])
     ·refine SW.g1 [0,1,2,3,4,10,11,12,13,47,66,71,120,139,144] mixed (And.intro (h1) (And.intro (aO hx) (And.intro (aO hy) (hbb)))) cT ?_
      refine SW.aC rfl (SW.skip ?_)
      refine SW.block ?_
      refine SW.g0 [0,1,2,3,4,10,11,12,13,47,66,71,120,139,144] mixed U ?_
      refine ⟨⟨i+1,by omega,by omega,q3.up (by unfold Lt;simpa using hbb)⟩,id,by show jj+1 - (i+1)<jj+1 - i;omega,?_⟩
      exact ha.weak hc m R1 (by simp [bf,List.lookup,SV.aP,SV.aH,SV.aM,SV.ok,SV.aF,o1,hn])
    ·have h1:=dF (p:=(i:Int)≤(jj:Nat)) (by omega)
     refine SW.seq (SW.seq ?_)
     refine SW.g0 [0,1,2,3,4,10,11,12,13,47,66,71,120,139,144] mixed (h1) ?_
     refine SW.ay rfl (SW.exit ?_)
     refine ⟨⟨i,q1,q2,q3,.inl (by omega)⟩,?_⟩
     exact ha.weak hc m R1 (by simp [bf,List.lookup,SV.aP,SV.aH,SV.aM,SV.ok,SV.aF,o1,hn])
   rintro ⟨i,i1,i2,i3,i4⟩
   dsimp only
   refine SW.gE (α:={j:Nat // j≤jj∧a≤j∧i≤j+1∧lY c R1 a i j b∧(j<i∨Lt c R1 j a)}) (fun j=>⟨[(12,i64 i),(13,i64 (j.1:Nat)),(10,.d (.int .i64 0)),(11,.d (.bool false)),(0,.gs n m),(1,i64 a),(4,gj g first)],(n,.arr 3 1 m (pc R1))::H0,k⟩) ?_ ?_
   ·refine SW.block ?_
    refine SW.loop (α:={j:Nat // j≤jj∧a≤j∧i≤j+1∧lY c R1 a i j b}) (fun j=>⟨[(12,i64 i),(13,i64 (j.1:Nat)),(10,.d (.int .i64 0)),(11,.d (.bool false)),(0,.gs n m),(1,i64 a),(4,gj g first)],(n,.arr 3 1 m (pc R1))::H0,k⟩) (fun j=>j.1) ⟨jj,Nat.le_refl _,by omega,by omega,i3⟩ id ?_ ?_
    ·exact ha.weak hc m R1 (by simp [bf,List.lookup,SV.aP,SV.aH,SV.aM,SV.ok,SV.aF,o1,hn])
    rintro ⟨j,q1,q2,q3,q4⟩
    dsimp only
    by_cases h:i≤j
    ·have h1:=dT (p:=((i:Nat):Int)≤(j:Nat)) (by omega)
     have hx:=bg (R:=R1) (i:=j) (by omega)
     have hy:=bg (R:=R1) (i:=a) (by omega)
     have cT:=hc.call (ge R1 j) (ge R1 a) k (hRR.all _ (cE (by omega))) (hRR.all _ (cE (by omega))) ha.ok
     have w3:=jd (i:=j) (by omega) (by omega)
     refine SW.seq (SW.seq ?_)
     rcases hbb:decide (c (ge R1 j) (ge R1 a)<0) with _ | _
     ·refine SW.g1 [0,1,2,3,4,10,11,12,13,47,66,71,120,139,144] mixed (And.intro (h1) (And.intro (aO hx) (And.intro (aO hy) (hbb)))) cT ?_
      refine SW.aC rfl (SW.skip ?_)
      refine SW.block ?_
      refine SW.g0 [0,1,2,3,4,10,11,12,13,47,66,71,120,139,144] mixed (w3) ?_
      have hd:lY c R1 a i (j - 1) b:=lY.down hc.tot (j:=j - 1) hRR (by rw [Nat.sub_add_cancel (by omega)];exact q4) (by omega) (by omega) (by rw [Nat.sub_add_cancel (by omega)];unfold Lt;simpa using hbb)
      refine ⟨⟨j - 1,by omega,by omega,by omega,hd⟩,id,by show j - 1<j;omega,?_⟩
      exact ha.weak hc m R1 (by simp [bf,List.lookup,SV.aP,SV.aH,SV.aM,SV.ok,SV.aF,o1,hn])
     ·refine SW.g1 [0,1,2,3,4,10,11,12,13,47,66,71,120,139,144] mixed (And.intro (h1) (And.intro (aO hx) (And.intro (aO hy) (hbb)))) cT ?_
      refine SW.ay rfl (SW.exit ?_)
      refine ⟨⟨j,q1,q2,q3,q4,.inr (by unfold Lt;simpa using hbb)⟩,?_⟩
      exact ha.weak hc m R1 (by simp [bf,List.lookup,SV.aP,SV.aH,SV.aM,SV.ok,SV.aF,o1,hn])
    ·have h1:=dF (p:=((i:Nat):Int)≤(j:Nat)) (by omega)
     refine SW.seq (SW.seq ?_)
     refine SW.g0 [0,1,2,3,4,10,11,12,13,47,66,71,120,139,144] mixed (h1) ?_
     refine SW.ay rfl (SW.exit ?_)
     refine ⟨⟨j,q1,q2,q3,q4,.inl (by omega)⟩,?_⟩
     exact ha.weak hc m R1 (by simp [bf,List.lookup,SV.aP,SV.aH,SV.aM,SV.ok,SV.aF,o1,hn])
   rintro ⟨j,j1,j2,j3,j4,j5⟩
   dsimp only
   by_cases hij:j<i
   ·have h1:=dT (p:=(i:Int)>(j:Nat)) (by omega)
    refine SW.seq (SW.seq ?_)
    refine SW.g0 [0,1,2,3,4,10,11,12,13,47,66,71,120,139,144] mixed (h1) ?_
    refine SW.aC rfl (SW.exit ?_)
    refine ⟨⟨(i,j,R1),by show a+1≤i;omega,by show i=j+1;omega,by show j<b;omega,j2,hs1,j4⟩,?_⟩
    exact ha.weak hc m R1 (by simp [bf,List.lookup,SV.aP,SV.aH,SV.aM,SV.ok,SV.aF,o1,hn])
   ·have h1:=dF (p:=(i:Int)>(j:Nat)) (by omega)
    have hx2:=bg (R:=R1) (i:=i) (by omega)
    have hy2:=bg (R:=R1) (i:=j) (by omega)
    have e5:bV (pc R1) i [i64 (ge R1 j:Nat)]=pc (R1.set i (ge R1 j)):=dm _ _ _
    have e6:bV (pc (R1.set i (ge R1 j))) j [i64 (ge R1 i:Nat)]=pc (swp R1 i j):=dm _ _ _
    have w2:=jd (i:=j) (by omega) (by omega)
    have hp2:lY c (swp R1 i j) a (i+1) (j - 1) b:=lY.swap hc.tot hRR j4 (by omega) (by omega) (by omega) (by omega) (i4.resolve_left (by omega)) (j5.resolve_left (by omega))
    have hne:i<j:=by
     have h5:=j5.resolve_left (by omega)
     by_cases e:i=j
     ·subst e
      exact absurd h5 (i4.resolve_left (by omega))
     ·omega
    refine SW.seq (SW.seq ?_)
    refine SW.g0 [0,1,2,3,4,10,11,12,13,47,66,71,120,139,144] mixed (h1) ?_
    refine SW.ay rfl (SW.skip ?_)
    refine SW.seq ?_
    refine SW.g0 [0,1,2,3,4,10,11,12,13,47,66,71,120,139,144] mixed (And.intro (aO hx2) (And.intro (aO hy2) (And.intro (e5) (e6)))) ?_
    refine SW.seq ?_
    refine SW.g0 [0,1,2,3,4,10,11,12,13,47,66,71,120,139,144] mixed U ?_
    refine SW.g0 [0,1,2,3,4,10,11,12,13,47,66,71,120,139,144] mixed (w2) ?_
    refine ⟨⟨(i+1,j - 1,swp R1 i j),by show a+1≤i+1;omega,by show i+1≤j - 1+1;omega,by show j - 1<b;omega,by show a≤j - 1;omega,hs1.step (by omega) (by omega) (by omega) (by omega),hp2⟩,id,by show j - 1+1 - (i+1)<jj+1 - i0;omega,?_⟩
    exact ha.weak hc m (swp R1 i j) (by simp [bf,List.lookup,SV.aP,SV.aH,SV.aM,SV.ok,SV.aF,o1,hn])
  clear hs1 hp1 hne w2 e5 e6 hx2 hy2 h1 hij j5 j4 j3 j2 j1 i4 i3 i2 i1 hRR hl0 hs0
  clear i j R0
  rintro ⟨⟨i,j,R1⟩,q1,q2,q3,q4,hs1,hp1⟩
  simp only at q1 q2 q3 q4 hs1 hp1
  dsimp only
  have nR:R1.length=R.length:=hs1.len
  have hRR:Rw D R1:=hR.s5 hs1 (by omega)
  have hx2:=bg (R:=R1) (i:=a) (by omega)
  have hy2:=bg (R:=R1) (i:=j) (by omega)
  have e5:bV (pc R1) j [i64 (ge R1 a:Nat)]=pc (R1.set j (ge R1 a)):=dm _ _ _
  have e6:bV (pc (R1.set j (ge R1 a))) a [i64 (ge R1 j:Nat)]=pc (swp R1 j a):=dm _ _ _
  refine SW.seq ?_
  refine SW.g0 [0,1,2,3,4,10,11,12,13,47,66,71,120,139,144] mixed (And.intro (aO hx2) (And.intro (aO hy2) (And.intro (e5) (e6)))) ?_
  refine SW.seq ?_
  refine SW.g0 [0,1,2,3,4,10,11,12,13,47,66,71,120,139,144] mixed U ?_
  refine SW.ret ?_
  exact End.mk (aR n m (swp R1 j a)::H0) (h3:=fun _ _ h=>h) (h4:=⟨j,false,swp R1 j a,rfl,q4,q3,hs1.step q4 q3 (Nat.le_refl _) (by omega),lY.done hc.tot hRR hp1 (by omega) q2 (by omega) (by omega),rfl⟩) (h6:=by simpa using ha.mC m (swp R1 j a))
theorem DL {m:Nat}{R:List Nat}(hR:Rw D R)(hm:R.length=m)(a b p:Nat)(hap:a≤p)(hpb:p<b)(hb:b≤m)(hl:m<256):
  SC Tryz.prog slices_partitionCmpFunc_int.f [.gs n m,i64 a,i64 b,i64 p,gj g first] (aR n m R::H0) k 0 fun r F=>∃ q ap R',r= .cW [i64 (q:Nat),bl ap]∧a≤q∧q<b∧ek a b R R'∧vi c R' a q b∧F=aR n m R'::H0:=
 ha.here hc (DK hc ha hR hm a b p hap hpb hb hl) (by have h:=jg ha hc m R;simp only [af] at h;simp [SV.aF,SV.ok,af,h]) fun r F ⟨q,ap,R',h1,_,_,_,_,h2⟩=>⟨by rw [h1];intro q;rfl,R',h2⟩
end
end
section
attribute [local irreducible] SW RW bB SC ai aa
theorem Bz {q:Nat}(h:q<256):IntKind.i64.wrap ((q:Int) - 1)=(q:Int) - 1:=by
 rcases q with _ | q
 ·decide
 ·rw [show ((q+1:Nat):Int) - 1=(q:Int) by omega]
  exact wrap_i64 _ (by omega)
section
variable {g:Nat} {first:List SV} {H0:Hp} {c:Nat→Nat→Int} {D:Nat→Prop} {n k:Nat}
theorem oG {m:Nat}{R R':List Nat}(hc:jV Tryz.prog g first H0 c D)(ha:At H0 n k):bn false (aR n m R::H0) (aR n m R::H0) (aR n m R'::H0)=aR n m R'::H0:=vg (pre:=[]) rfl (lW ha.no hc.nd)
variable (hc:jV Tryz.prog g first H0 c D) (ha:At H0 n k)
include hc ha
set_option maxHeartbeats 4000000 in
theorem DM {m:Nat}{R:List Nat}(hR:Rw D R)(hm:R.length=m)(lo hi f:Nat)(hlo:lo<256)(hf:f+hi≤m)(hl:m<256)(hh:rV c R f (lo+1) hi):
  SB Tryz.prog slices_siftDownCmpFunc_int.f [.gs n m,i64 lo,i64 hi,i64 f,gj g first] (aR n m R::H0) k 0 fun r F=>r= .cW []∧∃ R',ek (f+lo) (f+hi) R R'∧rV c R' f lo hi∧F=aR n m R'::H0:=by
 have o1:=ha.fo hc
 have hn:=ha.lt
 refine slices_siftDownCmpFunc_int.enter (by simp [SV.ok,SV.aF,o1,hn]) (ha.mC m R) (by simp [SV.aF]) ?_
 dsimp only [slices_siftDownCmpFunc_int.s,Co.M,Co.G,Co.J,Co.H,Co.N,Co.F,Co.C,Co.Z,Co.B,Co.b8,Co.aJ,Co.b_,Co.i6,Co.z8,Co.cn]
 refine SW.seq ?_
 refine SW.g0 [0,1,2,3,4,10,11,18,40,58] mixed U ?_
 refine SW.block ?_
 refine SW.loop (α:={x:Nat×List Nat // lo≤x.1∧x.1<256∧ek (f+lo) (f+hi) R x.2∧A1 c x.2 f lo hi x.1})
  (fun x=>⟨[(10,i64 (x.1.1:Nat)),(0,.gs n m),(2,i64 hi),(3,i64 f),(4,gj g first)],(n,.arr 3 1 m (pc x.1.2))::H0,k⟩) (fun x=>256 - x.1.1)
  ⟨(lo,R),Nat.le_refl _,hlo,.refl,A1.start hh⟩ id ?_ ?_
 ·exact ha.weak hc m R (by simp [bf,List.lookup,SV.aP,SV.aH,SV.aM,SV.ok,SV.aF,o1,hn])
 rintro ⟨⟨root,R1⟩,q1,q2,hs,hsi⟩
 simp only at q1 q2 hs hsi
 dsimp only
 have nR:R1.length=R.length:=hs.len
 have hRR:Rw D R1:=hR.s5 hs (by omega)
 have fin:∀ env,rV c R1 f lo hi→Go.Sl.Fin k 0 slices_siftDownCmpFunc_int.rv (fun r F=>r= .cW []∧∃ R',ek (f+lo) (f+hi) R R'∧rV c R' f lo hi∧F=aR n m R'::H0) ⟨env,(n,.arr 3 1 m (pc R1))::H0,k⟩:=fun env hd=>
  End.mk (aR n m R1::H0) (h3:=fun _ _ h=>h) (h4:=⟨rfl,R1,hs,hd,rfl⟩) (h6:=by simpa using ha.mC m R1)
 have mu:IntKind.i64.wrap (2*(root:Int))=((2*root:Nat):Int):=by
  rw [show 2*(root:Int)=((2*root:Nat):Int) by omega]
  exact wrap_i64 _ (by omega)
 refine SW.block ?_
 refine SW.seq ?_
 refine SW.g0 [0,1,2,3,4,10,11,18,40,58] mixed (mu) ?_
 by_cases h:hi≤2*root+1
 ·have h1:=dT (p:=((2*root+1:Nat):Int)≥(hi:Nat)) (by omega)
  refine SW.seq (SW.seq ?_)
  refine SW.g0 [0,1,2,3,4,10,11,18,40,58] mixed (h1) ?_
  refine SW.aC rfl (SW.exit ?_)
  exact fin _ (hsi.leaf h)
 have h1:=dF (p:=((2*root+1:Nat):Int)≥(hi:Nat)) (by omega)
 refine SW.seq (SW.seq ?_)
 refine SW.g0 [0,1,2,3,4,10,11,18,40,58] mixed (h1) ?_
 refine SW.ay rfl (SW.skip ?_)
 refine SW.gE (α:={ch:Nat // H9 c R1 f hi root ch}) (fun ch=>⟨[(11,i64 (ch.1:Nat)),(10,i64 root),(0,.gs n m),(2,i64 hi),(3,i64 f),(4,gj g first)],(n,.arr 3 1 m (pc R1))::H0,k⟩) ?_ ?_
 ·refine SW.seq ?_
  by_cases h2:2*root+2<hi
  ·have h3:=dT (p:=((2*root+1+1:Nat):Int)<(hi:Nat)) (by omega)
   have hx:=bg (R:=R1) (i:=f+(2*root+1)) (by omega)
   have hy:=bg (R:=R1) (i:=f+(2*root+1)+1) (by omega)
   have cT:=hc.call (ge R1 (f+(2*root+1))) (ge R1 (f+(2*root+1)+1)) k (hRR.all _ (cE (by omega))) (hRR.all _ (cE (by omega))) ha.ok
   rcases hbb:decide (c (ge R1 (f+(2*root+1))) (ge R1 (f+(2*root+1)+1))<0) with _ | _
   ·refine SW.g1 [0,1,2,3,4,10,11,18,40,58] mixed (And.intro (h3) (And.intro (aO hx) (And.intro (aO hy) (hbb)))) cT ?_
    refine SW.ay rfl (SW.skip ?_)
    refine ⟨⟨2*root+1,.inl rfl,by omega,fun z hz1 hz2 hz3=> ?_⟩,?_⟩
    ·have:z=2*root+1+1:=by omega
     subst this
     exact Lt.tot hc.tot hRR (by omega) (by omega) (by omega) (by unfold Lt;simpa [Nat.add_assoc] using hbb)
    ·exact ha.weak hc m R1 (by simp [bf,List.lookup,SV.aP,SV.aH,SV.aM,SV.ok,SV.aF,o1,hn])
   ·refine SW.g1 [0,1,2,3,4,10,11,18,40,58] mixed (And.intro (h3) (And.intro (aO hx) (And.intro (aO hy) (hbb)))) cT ?_
    refine SW.aC rfl ?_
    refine SW.g0 [0,1,2,3,4,10,11,18,40,58] mixed U ?_
    refine ⟨⟨2*root+1+1,.inr rfl,by omega,fun z hz1 hz2 hz3=> ?_⟩,?_⟩
    ·have:z=2*root+1:=by omega
     subst this
     unfold Lt
     simpa [Nat.add_assoc] using hbb
    ·exact ha.weak hc m R1 (by simp [bf,List.lookup,SV.aP,SV.aH,SV.aM,SV.ok,SV.aF,o1,hn])
  ·have h3:=dF (p:=((2*root+1+1:Nat):Int)<(hi:Nat)) (by omega)
   refine SW.g0 [0,1,2,3,4,10,11,18,40,58] mixed (h3) ?_
   refine SW.ay rfl (SW.skip ?_)
   refine ⟨⟨2*root+1,.inl rfl,by omega,fun z hz1 hz2 hz3=>by omega⟩,?_⟩
   exact ha.weak hc m R1 (by simp [bf,List.lookup,SV.aP,SV.aH,SV.aM,SV.ok,SV.aF,o1,hn])
 rintro ⟨ch,hch⟩
 dsimp only
 have hc1:=hch.1
 have hc2:=hch.2.1
 have hx:=bg (R:=R1) (i:=f+root) (by omega)
 have hy:=bg (R:=R1) (i:=f+ch) (by omega)
 have cT:=hc.call (ge R1 (f+root)) (ge R1 (f+ch)) k (hRR.all _ (cE (by omega))) (hRR.all _ (cE (by omega))) ha.ok
 have e5:bV (pc R1) (f+root) [i64 (ge R1 (f+ch):Nat)]=pc (R1.set (f+root) (ge R1 (f+ch))):=dm _ _ _
 have e6:bV (pc (R1.set (f+root) (ge R1 (f+ch)))) (f+ch) [i64 (ge R1 (f+root):Nat)]=pc (swp R1 (f+root) (f+ch)):=dm _ _ _
 refine SW.seq (SW.seq ?_)
 rcases hbb:decide (c (ge R1 (f+root)) (ge R1 (f+ch))<0) with _ | _
 ·refine SW.g1 [0,1,2,3,4,10,11,18,40,58] mixed (And.intro (aO hx) (And.intro (aO hy) (hbb))) cT ?_
  refine SW.aC rfl (SW.ret ?_)
  exact fin _ (hsi.stop hc.tot hRR (by omega) hch (by omega) (by unfold Lt;simpa using hbb))
 ·refine SW.g1 [0,1,2,3,4,10,11,18,40,58] mixed (And.intro (aO hx) (And.intro (aO hy) (hbb))) cT ?_
  refine SW.ay rfl (SW.skip ?_)
  refine SW.seq ?_
  refine SW.g0 [0,1,2,3,4,10,11,18,40,58] mixed (And.intro (aO hx) (And.intro (aO hy) (And.intro (e5) (e6)))) ?_
  refine SW.g0 [0,1,2,3,4,10,11,18,40,58] mixed U ?_
  refine ⟨⟨(ch,swp R1 (f+root) (f+ch)),by show lo≤ch;omega,by show ch<256;omega,hs.step (by omega) (by omega) (by omega) (by omega),hsi.next (by omega) q1 hch (by omega) (by unfold Lt;simpa using hbb)⟩,id,by show 256 - ch<256 - root;omega,?_⟩
  exact ha.weak hc m (swp R1 (f+root) (f+ch)) (by simp [bf,List.lookup,SV.aP,SV.aH,SV.aM,SV.ok,SV.aF,o1,hn])
theorem xY {m:Nat}{R:List Nat}(hR:Rw D R)(hm:R.length=m)(lo hi f:Nat)(hlo:lo<256)(hf:f+hi≤m)(hl:m<256)(hh:rV c R f (lo+1) hi):
  SC Tryz.prog slices_siftDownCmpFunc_int.f [.gs n m,i64 lo,i64 hi,i64 f,gj g first] (aR n m R::H0) k 0 fun r F=>r= .cW []∧∃ R',ek (f+lo) (f+hi) R R'∧rV c R' f lo hi∧F=aR n m R'::H0:=
 ha.here hc (DM hc ha hR hm lo hi f hlo hf hl hh) (by have h:=jg ha hc m R;simp only [af] at h;simp [SV.aF,SV.ok,af,h]) fun r F ⟨h1,R',_,_,h2⟩=>⟨by rw [h1];intro q;rfl,R',h2⟩
set_option maxHeartbeats 4000000 in
theorem DN {m:Nat}{R:List Nat}(hR:Rw D R)(hm:R.length=m)(a b:Nat)(hab:a<b)(hb:b≤m)(hl:m<256):
  SB Tryz.prog slices_heapSortCmpFunc_int.f [.gs n m,i64 a,i64 b,gj g first] (aR n m R::H0) k 0 fun r F=>r= .cW []∧∃ R',ek a b R R'∧gH c R' a b∧F=aR n m R'::H0:=by
 have o1:=ha.fo hc
 have hn:=ha.lt
 refine slices_heapSortCmpFunc_int.enter (by simp [SV.ok,SV.aF,o1,hn]) (ha.mC m R) (by simp [SV.aF]) ?_
 dsimp only [slices_heapSortCmpFunc_int.s,Co.M,Co.G,Co.J,Co.H,Co.N,Co.F,Co.C,Co.Z,Co.B,Co.b8,Co.aJ,Co.b_,Co.i6,Co.z8,Co.cn]
 have w1:=pM (i:=b) (j:=a) (by omega) (by omega)
 obtain ⟨hi,hhi⟩:∃ hi,hi=b - a:=⟨_,rfl⟩
 rw [← hhi] at w1
 have w2:=jd (i:=hi) (by omega) (by omega)
 have w3:IntKind.i64.wrap (((hi - 1:Nat):Int).tdiv 2)=(((hi - 1) / 2:Nat):Int):=by
  show IntKind.i64.wrap (((hi - 1) / 2:Nat):Int)=_
  exact wrap_i64 _ (by omega)
 have hab2:a+hi=b:=by omega
 refine SW.seq ?_
 refine SW.g0 [0,1,2,3,8,9,10,11,12,21,33] mixed U ?_
 refine SW.seq ?_
 refine SW.g0 [0,1,2,3,8,9,10,11,12,21,33] mixed U ?_
 refine SW.seq ?_
 refine SW.g0 [0,1,2,3,8,9,10,11,12,21,33] mixed (w1) ?_
 refine SW.gE (α:={R1:List Nat // ek a b R R1∧rV c R1 a 0 hi}) (fun x=>⟨[(8,i64 a),(9,.d (.int .i64 0)),(10,i64 hi),(0,.gs n m),(3,gj g first)],(n,.arr 3 1 m (pc x.1))::H0,k⟩) ?_ ?_
 ·refine SW.seq ?_
  refine SW.g0 [0,1,2,3,8,9,10,11,12,21,33] mixed (And.intro (w2) (w3)) ?_
  refine SW.block ?_
  refine SW.loop (α:={x:Nat×List Nat // x.1≤(hi - 1) / 2+1∧ek a b R x.2∧rV c x.2 a x.1 hi})
   (fun x=>⟨[(11,i64 ((x.1.1:Int) - 1)),(8,i64 a),(9,.d (.int .i64 0)),(10,i64 hi),(0,.gs n m),(3,gj g first)],(n,.arr 3 1 m (pc x.1.2))::H0,k⟩) (fun x=>x.1.1)
   ⟨((hi - 1) / 2+1,R),Nat.le_refl _,.refl,fun p ch z1 z2 z3=>by simp only at z1;omega⟩ id ?_ ?_
  ·refine ha.weak hc m R ?_
   have:(((hi - 1) / 2+1:Nat):Int) - 1=(((hi - 1) / 2:Nat):Int):=by omega
   simp only [this]
   simp [bf,List.lookup,SV.aP,SV.aH,SV.aM,SV.ok,SV.aF,o1,hn]
  rintro ⟨⟨q,R1⟩,q1,hs,hh⟩
  simp only at q1 hs hh
  dsimp only
  have nR:R1.length=R.length:=hs.len
  have hRR:Rw D R1:=hR.s5 hs (by omega)
  rcases q with _ | q
  ·have h1:=dF (p:=((0:Nat):Int) - 1≥0) (by omega)
   refine SW.seq (SW.seq ?_)
   refine SW.g0 [0,1,2,3,8,9,10,11,12,21,33] mixed (h1) ?_
   refine SW.ay rfl (SW.exit ?_)
   refine ⟨⟨R1,hs,hh⟩,?_⟩
   exact ha.weak hc m R1 (by simp [bf,List.lookup,SV.aP,SV.aH,SV.aM,SV.ok,SV.aF,o1,hn])
  ·have h1:=dT (p:=(q:Int)≥0) (by omega)
   have w4:IntKind.i64.wrap ((q:Int) - 1)=(q:Int) - 1:=Bz (by omega)
   rw [show ((q+1:Nat):Int) - 1=(q:Int) by omega]
   refine SW.seq (SW.seq ?_)
   refine SW.g0 [0,1,2,3,8,9,10,11,12,21,33] mixed (h1) ?_
   refine SW.aC rfl (SW.skip ?_)
   refine SW.seq (SW.block (SW.lp ?_))
   (repeat (first | refine aK.op U (h:= ?_) | refine aK.aL U (h:= ?_) | refine aK.skip (h:= ?_)))
   refine aK.aG (xY hc ha hRR (by omega) q hi a (by omega) (by omega) hl hh) (fun _ _ h=>h) (h:= ?_)
   rintro _ _ ⟨rfl,R2,hs2,hh2,rfl⟩
   rw [oG hc ha]
   refine aK.nil ?_
   refine SW.g0 [0,1,2,3,8,9,10,11,12,21,33] mixed (w4) ?_
   refine ⟨⟨(q,R2),by show q≤(hi - 1) / 2+1;omega,hs.trans (hs2.mono (by omega) (by omega)),hh2⟩,id,by show q<q+1;omega,?_⟩
   exact ha.weak hc m R2 (by simp [bf,List.lookup,SV.aP,SV.aH,SV.aM,SV.ok,SV.aF,o1,hn])
 rintro ⟨R0,hs0,hh0⟩
 dsimp only
 refine SW.seq ?_
 refine SW.g0 [0,1,2,3,8,9,10,11,12,21,33] mixed (w2) ?_
 refine SW.block ?_
 refine SW.loop (α:={x:Nat×List Nat // x.1≤hi∧ek a b R x.2∧rV c x.2 a 0 x.1∧pL c x.2 a (a+x.1) b})
  (fun x=>⟨[(12,i64 ((x.1.1:Int) - 1)),(8,i64 a),(9,.d (.int .i64 0)),(0,.gs n m),(3,gj g first)],(n,.arr 3 1 m (pc x.1.2))::H0,k⟩) (fun x=>x.1.1)
  ⟨(hi,R0),Nat.le_refl _,hs0,hh0,by simp only;rw [hab2];exact pL.start⟩ id ?_ ?_
 ·refine ha.weak hc m R0 ?_
  have:(hi:Int) - 1=((hi - 1:Nat):Int):=by omega
  simp only [this]
  simp [bf,List.lookup,SV.aP,SV.aH,SV.aM,SV.ok,SV.aF,o1,hn]
 rintro ⟨⟨q,R1⟩,q1,hs,hh,ht⟩
 simp only at q1 hs hh ht
 dsimp only
 have nR:R1.length=R.length:=hs.len
 have hRR:Rw D R1:=hR.s5 hs (by omega)
 rcases q with _ | q
 ·have h1:=dF (p:=((0:Nat):Int) - 1≥0) (by omega)
  refine SW.seq (SW.seq ?_)
  refine SW.g0 [0,1,2,3,8,9,10,11,12,21,33] mixed (h1) ?_
  refine SW.ay rfl (SW.exit ?_)
  have fin:∀ env,Go.Sl.Fin k 0 slices_heapSortCmpFunc_int.rv (fun r F=>r= .cW []∧∃ R',ek a b R R'∧gH c R' a b∧F=aR n m R'::H0) ⟨env,(n,.arr 3 1 m (pc R1))::H0,k⟩:=fun env=>
   End.mk (aR n m R1::H0) (h3:=fun _ _ h=>h) (h4:=⟨rfl,R1,hs,ht.1,rfl⟩) (h6:=by simpa using ha.mC m R1)
  exact fin _
 ·have h1:=dT (p:=(q:Int)≥0) (by omega)
  have w4:IntKind.i64.wrap ((q:Int) - 1)=(q:Int) - 1:=Bz (by omega)
  have hx:=bg (R:=R1) (i:=a) (by omega)
  have hy:=bg (R:=R1) (i:=a+q) (by omega)
  have e5:bV (pc R1) a [i64 (ge R1 (a+q):Nat)]=pc (R1.set a (ge R1 (a+q))):=dm _ _ _
  have e6:bV (pc (R1.set a (ge R1 (a+q)))) (a+q) [i64 (ge R1 a:Nat)]=pc (swp R1 a (a+q)):=dm _ _ _
  have hs1:ek a b R (swp R1 a (a+q)):=hs.step (Nat.le_refl _) (by omega) (by omega) (by omega)
  have ht1:pL c (swp R1 a (a+q)) a (a+q) b:=pL.pop hc.tot hRR (by omega) (by omega) ht hh rfl
  have hh1:rV c (swp R1 a (a+q)) a (0+1) q:=rV.FD (b:=b) (by omega) hh
  rw [show ((q+1:Nat):Int) - 1=(q:Int) by omega]
  refine SW.seq (SW.seq ?_)
  refine SW.g0 [0,1,2,3,8,9,10,11,12,21,33] mixed (h1) ?_
  refine SW.aC rfl (SW.skip ?_)
  refine SW.seq (SW.block (SW.seq ?_))
  refine SW.g0 [0,1,2,3,8,9,10,11,12,21,33] mixed (And.intro (aO hx) (And.intro (aO hy) (And.intro (e5) (e6)))) ?_
  generalize swp R1 a (a+q)=R3 at hs1 ht1 hh1
  have hl3:R3.length=R.length:=hs1.len
  have hR3:Rw D R3:=hR.s5 hs1 (by omega)
  refine SW.lp ?_
  (repeat (first | refine aK.op U (h:= ?_) | refine aK.aL U (h:= ?_) | refine aK.skip (h:= ?_)))
  refine aK.aG (xY hc ha hR3 (by omega) 0 q a (by omega) (by omega) hl hh1) (fun _ _ h=>h) (h:= ?_)
  rintro _ _ ⟨rfl,R2,hs2,hh2,rfl⟩
  rw [oG hc ha]
  refine aK.nil ?_
  refine SW.g0 [0,1,2,3,8,9,10,11,12,21,33] mixed (w4) ?_
  refine ⟨⟨(q,R2),by show q≤hi;omega,hs1.trans (hs2.mono (by omega) (by omega)),hh2,ht1.keep (by simpa using hs2) (by omega) (by omega)⟩,id,by show q<q+1;omega,?_⟩
  exact ha.weak hc m R2 (by simp [bf,List.lookup,SV.aP,SV.aH,SV.aM,SV.ok,SV.aF,o1,hn])
theorem DO {m:Nat}{R:List Nat}(hR:Rw D R)(hm:R.length=m)(a b:Nat)(hab:a<b)(hb:b≤m)(hl:m<256):
  SC Tryz.prog slices_heapSortCmpFunc_int.f [.gs n m,i64 a,i64 b,gj g first] (aR n m R::H0) k 0 fun r F=>r= .cW []∧∃ R',ek a b R R'∧gH c R' a b∧F=aR n m R'::H0:=
 ha.here hc (DN hc ha hR hm a b hab hb hl) (by have h:=jg ha hc m R;simp only [af] at h;simp [SV.aF,SV.ok,af,h]) fun r F ⟨h1,R',_,_,h2⟩=>⟨by rw [h1];intro q;rfl,R',h2⟩
end
end
end Go.Proofs.YtnakpdoioammhaaGreatDoor
