/-
 RevokeMore: the law walked.
-/
import Derived.Test.YtaelhkkjgfobhaaGreatK6
import Derived.Test.YtaelhkkjgfobhaaGreatKS
import Derived.Test.YtaelhkkjgfobhaaGreatKW
set_option linter.unusedSectionVars false
set_option linter.unusedVariables false
set_option linter.unusedSimpArgs false
namespace Go.Proofs.YtaelhkkjgfobhaaGreat
open Go.Sl Go.Proofs
attribute [local irreducible] SW RW aM SC ak au ir rU
theorem zg {n:Nat}{o:ag}(h:Go.Sl.Form n o):o.cl.length≤1048576:=by
 by_cases hm:108∈aS o.kind
 ·have:=h.lines hm
  unfold iN at this
  rw [Bool.and_eq_true] at this
  have:=of_decide_eq_true this.1
  omega
 ·have hz:=h.zero
  unfold zeroV at hz
  rw [Bool.and_eq_true] at hz
  have:=hz.2
  simp [hm] at this
  rw [this];decide
abbrev Aj (S U:Sh)(X Y:Ix):Hp:=(29,.box 110 [.any,.mp 26,.mp 27,.mp 28])::(28,.map (an Dt.cells dn Y.jV) Y.cf)::(27,.map (an Dt.cells dn Y.ch) Y.cc)::(26,.map (an Dt.cells ov Y.ops) Y.co)::
 (25,.box 117 [.ptr 17 0,.mp 22,.mp 23,.mp 24])::(22,.map (an Dt.cells ov U.ops) U.co)::(23,.map (an Dt.cells iv U.gf) U.ca)::(24,.map (an Dt.cells dv U.mA) U.cl)::
 (17,.box 166 [.mp 15,.mp 16])::(15,.map (an Dt.cells cv U.tr) U.ct)::(16,.map (an Dt.cells ov U.md) U.cm)::hX S X
theorem jW (S U:Sh)(X Y:Ix){k:Nat}(hk:30≤k):(Aj S U X Y).ok (fun n=>decide (n<k))=true:=by
 have a:=bq (fun n=>decide (n<k)) U.ops
 have b:=bM (fun n=>decide (n<k)) U.gf
 have c:=lp (fun n=>decide (n<k)) U.mA
 have d:=iY (fun n=>decide (n<k)) U.tr
 have e:=bq (fun n=>decide (n<k)) U.md
 have f:=bq (fun n=>decide (n<k)) Y.ops
 have g:=dZ (fun n=>decide (n<k)) Y.ch
 have g2:=dZ (fun n=>decide (n<k)) Y.jV
 have hR:=DW S X (show 15≤k by omega)
 refine av (by simp;omega) (by simp [Ob.ok,SV.ay,SV.ok];omega) (av (by simp;omega) g2 (av (by simp;omega) g (av (by simp;omega) f (av (by simp;omega) (by simp [Ob.ok,SV.ay,SV.ok];omega) (av (by simp;omega) a (av (by simp;omega) b (av (by simp;omega) c (av (by simp;omega) (by simp [Ob.ok,SV.ay,SV.ok];omega) (av (by simp;omega) d (av (by simp;omega) e hR))))))))))
theorem kG (S U:Sh)(X Y:Ix):∀ y,y∈Aj S U X Y→lk (Aj S U X Y) y.1=some y.2:=fun y hy=>by
 simp only [List.mem_cons,List.not_mem_nil,or_false] at hy
 rcases hy with rfl | rfl | rfl | rfl | rfl | rfl | rfl | rfl | rfl | rfl | rfl | rfl | rfl | rfl | rfl | rfl | rfl | rfl | rfl | rfl | rfl | rfl <;> rfl
theorem Ak (S U:Sh)(X Y:Ix)(o p:Ob):∀ y,y∈Aj S U X Y→lk ((31,o)::(30,p)::Aj S U X Y) y.1=some y.2:=fun y hy=>by
 simp only [List.mem_cons,List.not_mem_nil,or_false] at hy
 rcases hy with rfl | rfl | rfl | rfl | rfl | rfl | rfl | rfl | rfl | rfl | rfl | rfl | rfl | rfl | rfl | rfl | rfl | rfl | rfl | rfl | rfl | rfl <;> rfl
set_option maxHeartbeats 16000000 in
theorem zh (l:List ag)(n:Int)(q:Nat)(hq:q<256)(hd:∀ o,o∈l→o.dot.wf∧o.kind<256∧o.ow)(hlen:l.length≤9223372036854775807):
  SB Tryz.prog law18_RevokeMore.f [ops l,.d (.int .i64 n),u8 q] [] 0 0 (fun r F=>r=bl true):=by
 refine law18_RevokeMore.enter (by first | rfl | simp [SV.ok,SV.ay]) (by first | rfl | simp [Hp.ok,Ob.ok,SV.ok,SV.ay,aL.ai]) (by simp) ?_
 dsimp only [law18_RevokeMore.s,Co.M,Co.G,Co.J,Co.H,Co.N,Co.F,Co.C,Co.Z,Co.B,Co.b8,Co.aB,Co.bL,Co.i6,Co.z8,Co.bU]
 have hG':=Cn l (fun o ho=>⟨_,_,(hd o ho).2.2.eq,(hd o ho).2.2.le⟩) hlen
 refine SW.seq ?_
 refine SW.g0 [0,1,2,6,7,8,9,10,11,12,13,14,15,16,17,18,21,29,52,55,80,84,93,97,139] mixed af ?_
 refine SW.seq (SW.seq ?_)
 rcases hG:jS l with _ | _
 rotate_left
 ·rw [hG] at hG'
  refine SW.g2 [0,1,2,6,7,8,9,10,11,12,13,14,15,16,17,18,21,29,52,55,80,84,93,97,139] mixed af hG' lE ?_
  refine SW.ah rfl (SW.seq ?_)
  refine SW.g2 [0,1,2,6,7,8,9,10,11,12,13,14,15,16,17,18,21,29,52,55,80,84,93,97,139] mixed af hG' lE ?_
  refine SW.ret ?_
  exact End.mk [] (h4:=rfl)
 rw [hG] at hG'
 have hl80:=AQ hG
 have hH':=zc l (by omega) n hd
 rcases hH:(mz n l != 0) with _ | _
 rotate_left
 ·
  refine SW.g4 [0,1,2,6,7,8,9,10,11,12,13,14,15,16,17,18,21,29,52,55,80,84,93,97,139] mixed (hH) hG' hH' lE trivial ?_
  refine SW.ah rfl (SW.seq ?_)
  refine SW.g4 [0,1,2,6,7,8,9,10,11,12,13,14,15,16,17,18,21,29,52,55,80,84,93,97,139] mixed af hG' hH' lE trivial ?_
  refine SW.ret ?_
  exact End.mk [] (h4:=rfl)
 have hh:vV n l:=tg.1 (by simpa using hH)
 refine SW.g2 [0,1,2,6,7,8,9,10,11,12,13,14,15,16,17,18,21,29,52,55,80,84,93,97,139] mixed (hH) hG' hH' ?_
 refine SW.aj rfl (SW.skip ?_)
 refine SW.seq ?_
 (refine SW.dL [0,1,2,6,7,8,9,10,11,12,13,14,15,16,17,18,21,29,52,55,80,84,93,97,139] mixed ?_;(repeat (first | refine RW.ro af (h:= ?_) | refine RW.skip (h:= ?_) | refine RW.op af (h:= ?_) | refine RW.eF af (h:= ?_) | refine RW.bH (h:= ?_) | (refine RW.bJ (h:= ?_);(first | refine ak.mk af (hc:=Bp l (by omega) (fun o ho=>(hd o ho).1) _) (h:= ?_)))));refine RW.nil ⟨dY (by kernel_rfl),au.mk (h:= ?_)⟩)
 have hs80:(aT l).length≤80:=Nat.le_trans (vh l) hl80
 obtain ⟨k,hk,ek⟩:∃ k:Nat,k≤(aT l).length∧((q:Int).tmod (((aT l).length+1:Nat):Int))=((k:Nat):Int):=⟨q % ((aT l).length+1),by have:=Nat.mod_lt q (show 0<(aT l).length+1 by omega);omega,(Int.ofNat_tmod q _).symm⟩
 refine SW.seq ?_
 refine SW.g0 [0,1,2,6,7,8,9,10,11,12,13,14,15,16,17,18,21,29,52,55,80,84,93,97,139] mixed (ek) ?_
 have e0:(k:Int).toNat=k:=Int.toNat_natCast k
 have e5:ops ((aT l).take k)= .d (.sl k (((aT l).flatMap ag.ds).take (k*29))):=by unfold ops;rw [ri,List.length_take,Nat.min_eq_left hk]
 have hP:=vV.begin hh k
 have hperm:(aT l).Perm l:=hh.uniq.tf
 have hdl:∀ o,o∈l→o.kind<256∧o.ow∧o.cl.length≤1048576:=fun o ho=>⟨(hd o ho).2.1,(hd o ho).2.2,zg (hh.form o ho)⟩
 have hdt:∀ o,o∈(aT l).take k→o.kind<256∧o.ow∧o.cl.length≤1048576:=fun o ho=>hdl o (hP.sub o ho)
 have ht80:((aT l).take k).length≤80:=by rw [List.length_take];omega
 have c1:=Dy ((aT l).take k) (by omega) (fun o ho=>⟨(hdt o ho).1,(hdt o ho).2.1⟩)
 rw [e5] at c1
 have c2:=Gh l (by omega) (fun o ho=>⟨(hdl o ho).1,(hdl o ho).2.1⟩)
 refine SW.seq (SW.yu ?_)
 (repeat (first | refine bw.op (And.intro (e0) (Nat.sub_zero)) (h:= ?_) | refine bw.eF (And.intro (e0) (Nat.sub_zero)) (h:= ?_) | refine bw.skip (h:= ?_)))
 refine bw.bJ c1 (HSub.nil _) (h:= ?_)
 rintro _ _ ⟨S,hS,rfl,rfl⟩
 simp only [bV,dg,dh,fZ,gw,di,lk,List.lookup,Nat.reduceBEq,BEq.rfl,beq_self_eq_true,if_true,if_false,reduceIte,Nat.reduceEqDiff,Bool.false_eq_true,Option.isSome_some,Option.isSome_none,Nat.reduceAdd]
 refine bw.oC af (hS.Kg ht80 (hS.short hdt)) (h:= ?_)
 (repeat (first | refine bw.op af (h:= ?_) | refine bw.eF af (h:= ?_) | refine bw.skip (h:= ?_)))
 refine bw.bJ c2 (HSub.nil _) (h:= ?_)
 rintro _ _ ⟨U,hU,rfl,rfl⟩
 simp only [bV,dg,dh,fZ,gw,di,lk,List.lookup,Nat.reduceBEq,BEq.rfl,beq_self_eq_true,if_true,if_false,reduceIte,Nat.reduceEqDiff,Bool.false_eq_true,Option.isSome_some,Option.isSome_none,Nat.reduceAdd]
 refine bw.oC af (hU.Ir hl80 (hU.short hdl)) (h:= ?_)
 (repeat (first | refine bw.op af (h:= ?_) | refine bw.eF af (h:= ?_) | refine bw.skip (h:= ?_)))
 refine bw.nil ?_
 refine SW.seq (SW.seq ?_)
 refine SW.g0 [0,1,2,6,7,8,9,10,11,12,13,14,15,16,17,18,21,29,52,55,80,84,93,97,139] mixed af ?_
 refine SW.aj rfl (SW.skip ?_)
 have sA:=hS.small ht80
 have sB:=hU.small hl80
 have cA:=sy hS.X sA
 have cB:=Gi hU.X sB
 have nA:=hS.l_ ht80
 have nB:=hU.l_ hl80
 have hgd:= @og _ _ _ _ hP hS hU
 have hmo:= @Is _ _ _ _ hP hS hU
 have hth:= @tY _ _ _ _ hP hS hU
 have hxA:=hS.uA
 have hxB:=hU.uA
 generalize hS.X=X at*
 generalize hU.X=Y at*
 refine SW.seq (SW.seq ?_)
 refine SW.g0 [0,1,2,6,7,8,9,10,11,12,13,14,15,16,17,18,21,29,52,55,80,84,93,97,139] mixed af ?_
 refine SW.block ?_
 refine SW.loop (α:={i:Nat // i≤k}) (fun i=>⟨[(11,i64 i.1),(10,.ptr 29 0),(9,.ptr 14 0),(8,i64 k),(7,ops (aT l))],Aj S U X Y,30⟩) (fun i=>k - i.1) ⟨0,Nat.zero_le _⟩ id (aJ.same (Nat.zero_le _) (by simp [aY,List.lookup,SV.aC,SV.ok,SV.ay]) (jW S U X Y (Nat.le_refl _)) (kG S U X Y)) ?_
 rintro ⟨i,hi⟩
 dsimp only
 by_cases hik:i<k
 ·have h1:decide ((i:Int)<k)=true:=by simp only [decide_eq_true_eq];omega
  have hil:i<(aT l).length:=by omega
  obtain ⟨x,hx⟩:=br hil
  have e2:IntKind.i64.wrap ((i:Int)+1)=((i+1:Nat):Int):=wrap_i64 _ (by omega)
  have hxt:x∈(aT l).take k:=List.mem_of_getElem? (i:=i) (by rw [List.getElem?_take_of_lt hik];exact hx)
  have next:∀ (env:List (Nat×SV)) (hp:Hp) (kz:Nat),(∀ y,y∈Aj S U X Y→lk hp y.1=some y.2)→aY id 30 env [(11,i64 ((i+1:Nat):Int)),(10,.ptr 29 0),(9,.ptr 14 0),(8,i64 k),(7,ops (aT l))]→∃ (j:{i:Nat // i≤k}) (ρ:Nat→Nat),k - j.1<k - i∧aJ 0 ⟨env,hp,kz⟩ ⟨[(11,i64 j.1),(10,.ptr 29 0),(9,.ptr 14 0),(8,i64 k),(7,ops (aT l))],Aj S U X Y,30⟩ ρ:=fun env hp kz g1 g2=>
   ⟨⟨i+1,by omega⟩,id,by show k - (i+1)<k - i;omega,aJ.same (Nat.zero_le _) g2 (jW S U X Y (Nat.le_refl _)) g1⟩
  refine SW.seq (SW.seq ?_)
  refine SW.g0 [0,1,2,6,7,8,9,10,11,12,13,14,15,16,17,18,21,29,52,55,80,84,93,97,139] mixed (h1) ?_
  refine SW.ah rfl (SW.skip ?_)
  refine SW.seq (SW.block (SW.seq ?_))
  have cA:=cA x.dot
  have cB:=cB x.dot
  rcases hg:U.good x.dot with _ | _
  ·have a1:cL X x.dot= .dM [.d .aU,i64 7]:=by unfold cL;rw [hxA,hgd hxt,hg];rfl
   have b1:cL Y x.dot= .dM [.d .aU,i64 7]:=by unfold cL;rw [hxB,hg];rfl
   rw [a1] at cA
   rw [b1] at cB
   refine SW.g1 [0,1,2,6,7,8,9,10,11,12,13,14,15,16,17,18,21,29,52,55,80,84,93,97,139] mixed (And.intro (gA hx) (fO hx)) cA ?_
   refine SW.weak id (st1:=⟨[(13,i64 7),(12,.d .aU),(11,i64 i),(10,.ptr 29 0),(9,.ptr 14 0),(8,i64 k),(7,ops (aT l))],Aj S U X Y,30⟩) (aJ.same (Nat.zero_le _) (by simp [aY,List.lookup,SV.aC,SV.ok,SV.ay]) (jW S U X Y (Nat.le_refl _)) (kG S U X Y)) ?_
   refine SW.seq ?_
   refine SW.g1 [0,1,2,6,7,8,9,10,11,12,13,14,15,16,17,18,21,29,52,55,80,84,93,97,139] mixed (And.intro (gA hx) (fO hx)) cB ?_
   refine SW.seq (SW.seq ?_)
   refine SW.g0 [0,1,2,6,7,8,9,10,11,12,13,14,15,16,17,18,21,29,52,55,80,84,93,97,139] mixed af ?_
   refine SW.aj rfl (SW.skip ?_)
   refine SW.seq (SW.seq ?_)
   refine SW.g0 [0,1,2,6,7,8,9,10,11,12,13,14,15,16,17,18,21,29,52,55,80,84,93,97,139] mixed af ?_
   refine SW.block ?_
   refine SW.loop (α:=Unit) (fun _=>⟨[(16,i64 0),(14,.d .aU),(12,.d .aU),(11,i64 i),(10,.ptr 29 0),(9,.ptr 14 0),(8,i64 k),(7,ops (aT l))],Aj S U X Y,30⟩) (fun _=>0) () id (aJ.same (Nat.zero_le _) (by simp [aY,List.lookup,SV.aC,SV.ok,SV.ay]) (jW S U X Y (Nat.le_refl _)) (kG S U X Y)) ?_
   intro _
   dsimp only
   refine SW.seq (SW.seq ?_)
   refine SW.g0 [0,1,2,6,7,8,9,10,11,12,13,14,15,16,17,18,21,29,52,55,80,84,93,97,139] mixed af ?_
   refine SW.aj rfl (SW.exit ?_)
   refine (?_:Sl.SW _ _ _ _ _ _)
   refine SW.seq ?_
   refine SW.g0 [0,1,2,6,7,8,9,10,11,12,13,14,15,16,17,18,21,29,52,55,80,84,93,97,139] mixed af ?_
   refine SW.block ?_
   refine SW.loop (α:=Unit) (fun _=>⟨[(17,i64 0),(14,.d .aU),(12,.d .aU),(11,i64 i),(10,.ptr 29 0),(9,.ptr 14 0),(8,i64 k),(7,ops (aT l))],Aj S U X Y,30⟩) (fun _=>0) () id (aJ.same (Nat.zero_le _) (by simp [aY,List.lookup,SV.aC,SV.ok,SV.ay]) (jW S U X Y (Nat.le_refl _)) (kG S U X Y)) ?_
   intro _
   dsimp only
   refine SW.seq (SW.seq ?_)
   refine SW.g0 [0,1,2,6,7,8,9,10,11,12,13,14,15,16,17,18,21,29,52,55,80,84,93,97,139] mixed af ?_
   refine SW.aj rfl (SW.exit ?_)
   refine (?_:Sl.SW _ _ _ _ _ _)
   refine SW.g0 [0,1,2,6,7,8,9,10,11,12,13,14,15,16,17,18,21,29,52,55,80,84,93,97,139] mixed (e2) ?_
   exact next _ _ _ (kG S U X Y) (by simp [aY,List.lookup,SV.aC,SV.ok,SV.ay])
  have a1:cL X x.dot= .dM [bS (Dt.set (X.lD (X.op x.dot))),i64 0]:=by unfold cL;rw [hxA,hgd hxt,hg];rfl
  have b1:cL Y x.dot= .dM [bS (Dt.set (Y.lD (Y.op x.dot))),i64 0]:=by unfold cL;rw [hxB,hg];rfl
  rw [a1] at cA
  rw [b1] at cB
  have hmo:=fun v=> @hmo x hxt hg v
  have hth:=fun v=>(@hth x hxt hg v).1
  have nA:=nA (X.op x.dot)
  have nB:=nB (Y.op x.dot)
  generalize Dt.set (X.lD (X.op x.dot))=A at*
  generalize Dt.set (Y.lD (Y.op x.dot))=B at*
  refine SW.g1 [0,1,2,6,7,8,9,10,11,12,13,14,15,16,17,18,21,29,52,55,80,84,93,97,139] mixed (And.intro (gA hx) (fO hx)) cA ?_
  refine SW.weak id (st1:=⟨[(13,i64 0),(12,bS A),(11,i64 i),(10,.ptr 29 0),(9,.ptr 14 0),(8,i64 k),(7,ops (aT l))],Aj S U X Y,30⟩) (aJ.same (Nat.zero_le _) (by simp [aY,List.lookup,SV.aC,SV.ok,SV.ay]) (jW S U X Y (Nat.le_refl _)) (kG S U X Y)) ?_
  refine SW.seq ?_
  refine SW.g1 [0,1,2,6,7,8,9,10,11,12,13,14,15,16,17,18,21,29,52,55,80,84,93,97,139] mixed (And.intro (gA hx) (fO hx)) cB ?_
  refine SW.seq (SW.seq ?_)
  refine SW.g0 [0,1,2,6,7,8,9,10,11,12,13,14,15,16,17,18,21,29,52,55,80,84,93,97,139] mixed af ?_
  refine SW.aj rfl (SW.skip ?_)
  refine SW.seq (SW.seq ?_)
  refine SW.g0 [0,1,2,6,7,8,9,10,11,12,13,14,15,16,17,18,21,29,52,55,80,84,93,97,139] mixed af ?_
  refine SW.block ?_
  refine SW.loop (α:={j:Nat // j≤A.length}) (fun j=>⟨[(16,i64 j.1),(14,bS B),(12,bS A),(11,i64 i),(10,.ptr 29 0),(9,.ptr 14 0),(8,i64 k),(7,ops (aT l))],Aj S U X Y,30⟩) (fun j=>A.length - j.1) ⟨0,Nat.zero_le _⟩ id (aJ.same (Nat.zero_le _) (by simp [aY,List.lookup,SV.aC,SV.ok,SV.ay]) (jW S U X Y (Nat.le_refl _)) (kG S U X Y)) ?_
  rintro ⟨j,hj⟩
  dsimp only
  by_cases hjl:j<A.length
  ·have k1:decide ((j:Int)<A.length)=true:=by simp only [decide_eq_true_eq];omega
   obtain ⟨v,hv⟩:=br hjl
   have k2:IntKind.i64.wrap ((j:Int)+1)=((j+1:Nat):Int):=wrap_i64 _ (by omega)
   have dI:=DI B v nB
   rw [decide_eq_true (hth v (List.mem_of_getElem? hv)).1] at dI
   refine SW.seq (SW.seq ?_)
   refine SW.g0 [0,1,2,6,7,8,9,10,11,12,13,14,15,16,17,18,21,29,52,55,80,84,93,97,139] mixed (k1) ?_
   refine SW.ah rfl (SW.skip ?_)
   refine SW.seq (SW.block (SW.seq ?_))
   refine SW.g1 [0,1,2,6,7,8,9,10,11,12,13,14,15,16,17,18,21,29,52,55,80,84,93,97,139] mixed (gI hv) dI ?_
   refine SW.aj rfl (SW.skip ?_)
   refine SW.g0 [0,1,2,6,7,8,9,10,11,12,13,14,15,16,17,18,21,29,52,55,80,84,93,97,139] mixed (k2) ?_
   exact ⟨⟨j+1,by omega⟩,id,by show A.length - (j+1)<A.length - j;omega,aJ.same (Nat.zero_le _) (by simp [aY,List.lookup,SV.aC,SV.ok,SV.ay]) (jW S U X Y (Nat.le_refl _)) (kG S U X Y)⟩
  have k1:decide ((j:Int)<A.length)=false:=by simp only [decide_eq_false_iff_not];omega
  refine SW.seq (SW.seq ?_)
  refine SW.g0 [0,1,2,6,7,8,9,10,11,12,13,14,15,16,17,18,21,29,52,55,80,84,93,97,139] mixed (k1) ?_
  refine SW.aj rfl (SW.exit ?_)
  refine (?_:Sl.SW _ _ _ _ _ _)
  refine SW.seq ?_
  refine SW.g0 [0,1,2,6,7,8,9,10,11,12,13,14,15,16,17,18,21,29,52,55,80,84,93,97,139] mixed af ?_
  refine SW.block ?_
  refine SW.loop (α:={j:Nat // j≤B.length}) (fun j=>⟨[(17,i64 j.1),(14,bS B),(12,bS A),(11,i64 i),(10,.ptr 29 0),(9,.ptr 14 0),(8,i64 k),(7,ops (aT l))],Aj S U X Y,30⟩) (fun j=>B.length - j.1) ⟨0,Nat.zero_le _⟩ id (aJ.same (Nat.zero_le _) (by simp [aY,List.lookup,SV.aC,SV.ok,SV.ay]) (jW S U X Y (Nat.le_refl _)) (kG S U X Y)) ?_
  rintro ⟨j,hj⟩
  dsimp only
  by_cases hjl:j<B.length
  ·have k1:decide ((j:Int)<B.length)=true:=by simp only [decide_eq_true_eq];omega
   obtain ⟨v,hv⟩:=br hjl
   have k2:IntKind.i64.wrap ((j:Int)+1)=((j+1:Nat):Int):=wrap_i64 _ (by omega)
   obtain ⟨m1,m2⟩:=hmo v (List.mem_of_getElem? hv)
   have dI:=DI A v nA
   rw [← m1] at dI
   have dF:=oQ (rT l v) x
   have f1:aM Tryz.prog ref10_Find.f [ops (aT l),.agg v.cells] [] 30 0 (.dM [.agg (rT (aT l) v).cells,bl (aD (aT l) v).isSome]) []:=vZ (aT l) (by omega) v 30
   have f2:aM Tryz.prog ref10_Find.f [ops ((aT l).take k),.agg v.cells] [] 31 0 (.dM [.agg (rT ((aT l).take k) v).cells,bl (aD ((aT l).take k) v).isSome]) []:=vZ ((aT l).take k) (by omega) v 31
   rw [Bk hh.uniq] at f1
   rw [e5] at f2
   generalize (aD (aT l) v).isSome=w1 at f1
   generalize rT ((aT l).take k) v=o2 at f2
   generalize rT l v=o1 at f1 dF m2
   generalize (aD ((aT l).take k) v).isSome=w at f2 dI m2
   refine SW.seq (SW.seq ?_)
   refine SW.g0 [0,1,2,6,7,8,9,10,11,12,13,14,15,16,17,18,21,29,52,55,80,84,93,97,139] mixed (k1) ?_
   refine SW.ah rfl (SW.skip ?_)
   refine SW.seq (SW.block (SW.seq ?_))
   refine SW.g1 [0,1,2,6,7,8,9,10,11,12,13,14,15,16,17,18,21,29,52,55,80,84,93,97,139] mixed (gI hv) f1 ?_
   refine SW.seq ?_
   refine SW.g1 [0,1,2,6,7,8,9,10,11,12,13,14,15,16,17,18,21,29,52,55,80,84,93,97,139] mixed (And.intro (gI hv) (And.intro (e0) (Nat.sub_zero))) f2 ?_
   refine SW.seq ?_
   cases w with
   | true=>
    refine SW.g1 [0,1,2,6,7,8,9,10,11,12,13,14,15,16,17,18,21,29,52,55,80,84,93,97,139] mixed (gI hv) dI ?_
    refine SW.aj rfl (SW.skip ?_)
    refine SW.g0 [0,1,2,6,7,8,9,10,11,12,13,14,15,16,17,18,21,29,52,55,80,84,93,97,139] mixed (k2) ?_
    exact ⟨⟨j+1,by omega⟩,id,by show B.length - (j+1)<B.length - j;omega,aJ.same (Nat.zero_le _) (by simp [aY,List.lookup,SV.aC,SV.ok,SV.ay]) (jW S U X Y (Nat.le_refl _)) (Ak S U X Y _ _)⟩
   | false=>
    rw [m2 rfl] at dF
    refine SW.g2 [0,1,2,6,7,8,9,10,11,12,13,14,15,16,17,18,21,29,52,55,80,84,93,97,139] mixed (And.intro (gI hv) (And.intro (gA hx) (And.intro (eZ hx) (bT hx)))) dI dF ?_
    refine SW.aj rfl (SW.skip ?_)
    refine SW.g0 [0,1,2,6,7,8,9,10,11,12,13,14,15,16,17,18,21,29,52,55,80,84,93,97,139] mixed (k2) ?_
    exact ⟨⟨j+1,by omega⟩,id,by show B.length - (j+1)<B.length - j;omega,aJ.same (Nat.zero_le _) (by simp [aY,List.lookup,SV.aC,SV.ok,SV.ay]) (jW S U X Y (Nat.le_refl _)) (Ak S U X Y _ _)⟩
  have k1:decide ((j:Int)<B.length)=false:=by simp only [decide_eq_false_iff_not];omega
  refine SW.seq (SW.seq ?_)
  refine SW.g0 [0,1,2,6,7,8,9,10,11,12,13,14,15,16,17,18,21,29,52,55,80,84,93,97,139] mixed (k1) ?_
  refine SW.aj rfl (SW.exit ?_)
  refine (?_:Sl.SW _ _ _ _ _ _)
  refine SW.g0 [0,1,2,6,7,8,9,10,11,12,13,14,15,16,17,18,21,29,52,55,80,84,93,97,139] mixed (e2) ?_
  exact next _ _ _ (kG S U X Y) (by simp [aY,List.lookup,SV.aC,SV.ok,SV.ay])
 ·have h1:decide ((i:Int)<k)=false:=by simp only [decide_eq_false_iff_not];omega
  refine SW.seq (SW.seq ?_)
  refine SW.g0 [0,1,2,6,7,8,9,10,11,12,13,14,15,16,17,18,21,29,52,55,80,84,93,97,139] mixed (h1) ?_
  refine SW.aj rfl (SW.exit ?_)
  refine (?_:Sl.SW _ _ _ _ _ _)
  refine SW.seq ?_
  refine SW.g1 [0,1,2,6,7,8,9,10,11,12,13,14,15,16,17,18,21,29,52,55,80,84,93,97,139] mixed af lE ?_
  refine SW.ret ?_
  exact End.mk [] (h4:=rfl)
end Go.Proofs.YtaelhkkjgfobhaaGreat
