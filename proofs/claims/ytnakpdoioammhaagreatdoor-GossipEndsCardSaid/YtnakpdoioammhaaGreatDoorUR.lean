/-
 Gossip: the law of ends.
-/
import Derived.Test.YtnakpdoioammhaaGreatDoorUD
import Derived.Test.YtnakpdoioammhaaGreatDoorUG
import Derived.Test.YtnakpdoioammhaaGreatDoorUJ
import Derived.Test.YtnakpdoioammhaaGreatDoorUP
import Derived.Test.YtnakpdoioammhaaGreatDoorUN
set_option linter.unusedSectionVars false
set_option linter.unusedVariables false
set_option linter.unusedSimpArgs false
namespace Go.Proofs.YtnakpdoioammhaaGreatDoor
open Go.Sl Go.Proofs
attribute [local irreducible] SW RW bB SC ai aa
theorem uj {l:List ah}(hu:cS l)(v:ag):eD l v=aA (l.filter fun o=> !v.aV o.dot):=by
 unfold eD eA
 rw [hu.fst]
theorem xk {n:Nat}{o:ah}(h:Go.Sl.Form n o):gz o=false:=by
 have:=rK h
 unfold gz
 simp only [decide_eq_false_iff_not];omega
theorem vU {n:Int}{S P R:List ah}(hS:kC n S)(e:P++R=aA S){most:Nat}(h1:1≤most)(h2:most≤64):
  oB 0 1 S (az P) (most:Int)= .cW [.agg (fe 1 0 1 (az S) (.d (vq (R.take most)))),i64 0]:=by
 have hL:eD S (az P)=R:=by rw [uj hS.uniq,yT hS e]
 have hD:jb S (az P) (most:Int)=R.take most:=by unfold jb;rw [hL,Int.toNat_natCast]
 have hm0:l9 1 0 1 []=true:=rfl
 have hm:l9 1 0 1 (R.take most)=true:=by
  have ha:(R.take most).any gz=false:=by
   rw [List.any_eq_false]
   intro o ho
   have hoS:o∈S:=(aT S).mem_iff.1 (e ▸ List.mem_append.2 (.inr (List.mem_of_mem_take ho)))
   rw [xk (hS.form o hoS)];decide
  have hl:(((R.take most).length:Nat):Int)≤64:=by rw [List.length_take];omega
  unfold l9
  rw [ha]
  simp [-List.length_take,hl]
 unfold oB
 rw [if_neg (by rw [hm0];decide),if_neg (by omega),hD]
 unfold l_
 rw [hm];rfl
theorem Cx {m k most i:Nat}(h0:1≤most)(hk:k≤m):(i:Int)<rZ ((m:Int) - k) most↔i*most<m - k:=by
 unfold rZ
 by_cases h:(m:Int) - k≤0
 ·rw [if_pos h]
  have:m - k=0:=by omega
  rw [this];constructor <;> intro h <;> omega
 ·rw [if_neg h,if_neg (by omega)]
  rw [show (i:Int)<((m:Int) - k - 1) / most+1↔(i:Int)≤((m:Int) - k - 1) / most by omega,Int.le_ediv_iff_mul_le (by omega)]
  constructor
  ·intro h2
   have:((i*most:Nat):Int)≤(m:Int) - k - 1:=by rw [Int.natCast_mul];exact h2
   omega
  ·intro h2
   have:((i*most:Nat):Int)≤(m:Int) - k - 1:=by omega
   rwa [Int.natCast_mul] at this
def Ez (m k most i:Nat):Nat:=min m (k+i*most)
theorem Cy {m k most i:Nat}:Ez m k most (i+1)=Ez m k most i+min most (m - Ez m k most i):=by
 unfold Ez
 rw [Nat.add_mul]
 omega
theorem Cz {m k most:Nat}(h:k≤m):Ez m k most 0=k:=by unfold Ez;omega
theorem vV {n:Int}{S P T R:List ah}(hS:kC n S)(e:P++(T++R)=aA S)(c:Nat):
  ∃ c',mP (az P) ([],c) T=(T,az (P++T),[])∧(eC (az P) ([],c) T).2=c':=by
 refine ⟨_,?_,rfl⟩
 have h:=(Dq (has:=az P) (X:=([],c)) ⟨⟨List.nodup_nil,List.nodup_nil,by simp⟩,by simp⟩ T).2
 have h2:A2 (az P) (vals ([]:MM Dt ah)) T=(T,az (P++T),[]):=A6 hS e
 rw [h2] at h
 generalize mP (az P) ([],c) T=X at h ⊢
 obtain ⟨x,v,M⟩:=X
 simp only [Prod.mk.injEq] at h
 obtain ⟨rfl,rfl,h3⟩:=h
 have:M=[]:=by
  unfold vals at h3
  exact List.map_eq_nil_iff.1 h3
 rw [this]
theorem rM (l:List ah){a b:Nat}(h:a≤b):l.take a++((l.drop a).take (b - a)++l.drop b)=l:=by
 have h1:(l.drop a).take (b - a)++l.drop b=l.drop a:=by
  have:=List.take_append_drop (b - a) (l.drop a)
  rwa [List.drop_drop,show a+(b - a)=b by omega] at this
 rw [h1,List.take_append_drop]
theorem zT (l:List ah){a b:Nat}(h:a≤b):l.take a++(l.drop a).take (b - a)=l.take b:=by
 have h1:=rM l h
 have h2:=List.take_append_drop b l
 rw [← List.append_assoc] at h1
 exact List.append_cancel_right (h1.trans h2.symm)
theorem EA (l:List ah){i:Nat}(h:i≤l.length):ops (l.take i)= .d (.sl i (List.take (i*29) (l.flatMap ah.ds))):=by
 unfold ops
 rw [vl,List.length_take,Nat.min_eq_left h]
theorem vW (l:List ah):az (aA l)=az l:=wE fun o=>(aT l).mem_iff
structure Ir (l:List ah)(k0 most i kk:Nat):Prop where
 at_:kk=Ez l.length k0 most i
 le:kk≤l.length
set_option maxRecDepth 100000 in
set_option maxHeartbeats 16000000 in
theorem xl (l:List ah)(hl:Em l)(n:Int)(hn: -9223372036854775808≤n)(hn2:n≤9223372036854775807)(x0 x1:Nat)(hx0:x0<256)(hx1:x1<256):Go.Sl.Pure Tryz.prog law14_GossipEnds.f [ops l,i64 n,.agg [u8 x0,u8 x1]] (bl true):=by
 have hB:DJ l:=⟨hl.len,fun x hx=>⟨(hl.op x hx).1.w.jf,(hl.op x hx).2,(hl.op x hx).1.dr,(hl.op x hx).1.dn⟩⟩
 refine law14_GossipEnds.enter (by first | rfl | simp [SV.ok,SV.aF]) (by first | rfl | simp [Hp.ok,Ob.ok,SV.ok,SV.aF,ag.an]) (by simp) ?_
 dsimp only [law14_GossipEnds.s,Co.M,Co.G,Co.J,Co.H,Co.N,Co.F,Co.C,Co.Z,Co.B,Co.b8,Co.aJ,Co.b_,Co.i6,Co.z8,Co.cn]
 have hg:=fun k=>y9 l hB k
 refine SW.seq ?_
 (refine SW.au [0,1,2,5,6,7,8,9,10,11,12,13,14,15,16,17,18,19,20,21,29,35,51,63,79,88,100,127] mixed ?_;(repeat (first | refine RW.ro U (h:= ?_) | refine RW.skip (h:= ?_) | refine RW.op U (h:= ?_) | refine RW.aL U (h:= ?_) | refine RW.aj (h:= ?_)));refine RW.nil ⟨aD (by kernel_rfl),aa.mk (h:= ?_)⟩)
 refine SW.seq (SW.seq ?_)
 rcases ES:oC l with _ | _ <;> rw [ES] at hg
 case true=>
  (refine SW.au [0,1,2,5,6,7,8,9,10,11,12,13,14,15,16,17,18,19,20,21,29,35,51,63,79,88,100,127] mixed ?_;(repeat (first | refine RW.ro U (h:= ?_) | refine RW.skip (h:= ?_) | refine RW.op U (h:= ?_) | refine RW.aL U (h:= ?_) | refine RW.aj (h:= ?_) | (refine RW.aG (h:= ?_);(first | refine ai.mk U (hc:=hg _) (h:= ?_) | refine ai.mk U (hc:=pY _) (h:= ?_)))));refine RW.nil ⟨aD (by kernel_rfl),aa.mk (h:= ?_)⟩)
  refine SW.aC rfl (SW.seq ?_)
  (refine SW.au [0,1,2,5,6,7,8,9,10,11,12,13,14,15,16,17,18,19,20,21,29,35,51,63,79,88,100,127] mixed ?_;(repeat (first | refine RW.ro U (h:= ?_) | refine RW.skip (h:= ?_) | refine RW.op U (h:= ?_) | refine RW.aL U (h:= ?_) | refine RW.aj (h:= ?_) | (refine RW.aG (h:= ?_);(first | refine ai.mk U (hc:=hg _) (h:= ?_) | refine ai.mk U (hc:=pY _) (h:= ?_)))));refine RW.nil ⟨aD (by kernel_rfl),aa.mk (h:= ?_)⟩)
  refine SW.ret ?_
  exact End.mk [] (h4:=⟨rfl,rfl⟩)
 obtain ⟨hl120,hOk⟩:=ud hB ES
 have hh:=fun k=>xg n hn hn2 l (by omega) (fun o ho=>⟨(hl.op o ho).1,by have:=(hl.op o ho).2;omega⟩) k
 by_cases hz:iW n l=0
 case neg=>
  have z1:(iW n l != 0)=true:=by rw [bne_iff_ne];exact hz
  (refine SW.au [0,1,2,5,6,7,8,9,10,11,12,13,14,15,16,17,18,19,20,21,29,35,51,63,79,88,100,127] mixed ?_;(repeat (first | refine RW.ro (z1) (h:= ?_) | refine RW.skip (h:= ?_) | refine RW.op (z1) (h:= ?_) | refine RW.aL (z1) (h:= ?_) | refine RW.aj (h:= ?_) | (refine RW.aG (h:= ?_);(first | refine ai.mk (z1) (hc:=hg _) (h:= ?_) | refine ai.mk (z1) (hc:=hh _) (h:= ?_)))));refine RW.nil ⟨aD (by kernel_rfl),aa.mk (h:= ?_)⟩)
  refine SW.aC rfl (SW.seq ?_)
  (refine SW.au [0,1,2,5,6,7,8,9,10,11,12,13,14,15,16,17,18,19,20,21,29,35,51,63,79,88,100,127] mixed ?_;(repeat (first | refine RW.ro U (h:= ?_) | refine RW.skip (h:= ?_) | refine RW.op U (h:= ?_) | refine RW.aL U (h:= ?_) | refine RW.aj (h:= ?_) | (refine RW.aG (h:= ?_);(first | refine ai.mk U (hc:=pY _) (h:= ?_)))));refine RW.nil ⟨aD (by kernel_rfl),aa.mk (h:= ?_)⟩)
  refine SW.ret ?_
  exact End.mk [] (h4:=⟨rfl,rfl⟩)
 have hS:kC n l:=wC.1 hz
 rw [hz] at hh
 (refine SW.au [0,1,2,5,6,7,8,9,10,11,12,13,14,15,16,17,18,19,20,21,29,35,51,63,79,88,100,127] mixed ?_;(repeat (first | refine RW.ro U (h:= ?_) | refine RW.skip (h:= ?_) | refine RW.op U (h:= ?_) | refine RW.aL U (h:= ?_) | refine RW.aj (h:= ?_) | (refine RW.aG (h:= ?_);(first | refine ai.mk U (hc:=hg _) (h:= ?_) | refine ai.mk U (hc:=hh _) (h:= ?_)))));refine RW.nil ⟨aD (by kernel_rfl),aa.mk (h:= ?_)⟩)
 refine SW.ay rfl (SW.skip (SW.seq ?_))
 obtain ⟨m,rfl⟩:∃ m:Nat,n=(m:Int):=⟨n.toNat,by have:=hS.n1;omega⟩
 have m1:1≤m:=by have:=hS.n1;omega
 have m8:m≤8:=by have:=hS.n8;omega
 have hst:=fun k=>BW l (by omega) k
 rw [show lg l=aA l by unfold lg;rw [hS.uniq.fst]] at hst
 have hlen:(aA l).length=l.length:=(aT l).length_eq
 have hmem:∀ o,o∈aA l→o∈l:=fun o ho=>(aT l).mem_iff.1 ho
 (refine SW.au [0,1,2,5,6,7,8,9,10,11,12,13,14,15,16,17,18,19,20,21,29,35,51,63,79,88,100,127] mixed ?_;(repeat (first | refine RW.ro U (h:= ?_) | refine RW.skip (h:= ?_) | refine RW.op U (h:= ?_) | refine RW.aL U (h:= ?_) | refine RW.aj (h:= ?_) | (refine RW.aG (h:= ?_);(first | refine ai.mk U (hc:=hst _) (h:= ?_)))));refine RW.nil ⟨aD (by kernel_rfl),aa.mk (h:= ?_)⟩)
 refine SW.seq ?_
 (refine SW.au [0,1,2,5,6,7,8,9,10,11,12,13,14,15,16,17,18,19,20,21,29,35,51,63,79,88,100,127] mixed ?_;(repeat (first | refine RW.ro U (h:= ?_) | refine RW.skip (h:= ?_) | refine RW.op U (h:= ?_) | refine RW.aL U (h:= ?_) | refine RW.aj (h:= ?_)));refine RW.nil ⟨aD (by kernel_rfl),aa.mk (h:= ?_)⟩)
 have b1:SV.aM id [u8 x0,u8 x1]=[u8 x0,u8 x1]:=rfl
 have b2:SV.aF (fun n=>decide (n<1)) [u8 x0,u8 x1]=true:=rfl
 refine SW.gE (α:={k:Nat // k≤l.length}) (fun k=>⟨[(8,i64 k.1),(7,ops (aA l)),(5,.ptr 0 0),(1,i64 m),(0,ops l)],[(0,.box 23 [u8 x0,u8 x1])],1⟩) ?_ ?_
 ·refine SW.seq ?_
  by_cases hlz:l.length=0
  ·have q1:decide (((aA l).length:Int)>0)=false:=by rw [hlen,hlz];rfl
   (refine SW.au [0,1,2,5,6,7,8,9,10,11,12,13,14,15,16,17,18,19,20,21,29,35,51,63,79,88,100,127] mixed ?_;(repeat (first | refine RW.ro (q1) (h:= ?_) | refine RW.skip (h:= ?_) | refine RW.op (q1) (h:= ?_) | refine RW.aL (q1) (h:= ?_) | refine RW.aj (h:= ?_)));refine RW.nil ⟨aD (by kernel_rfl),aa.mk (h:= ?_)⟩)
   refine SW.ay rfl (SW.skip ?_)
   exact ⟨⟨0,by omega⟩,bk.mk U⟩
  ·have q1:decide (((aA l).length:Int)>0)=true:=by rw [hlen];simp only [decide_eq_true_eq];omega
   have e1:IntKind.i64.wrap (x0:Int)=(x0:Int):=wrap_i64 _ (by omega)
   have e2:(x0:Int).tmod ((aA l).length:Int)=((x0 % l.length:Nat):Int):=by rw [hlen];exact (Int.ofNat_tmod x0 _).symm
   have e3:IntKind.i64.wrap ((x0 % l.length:Nat):Int)=((x0 % l.length:Nat):Int):=wrap_i64 _ (by have:=Nat.mod_lt x0 (show l.length>0 by omega);omega)
   (refine SW.au [0,1,2,5,6,7,8,9,10,11,12,13,14,15,16,17,18,19,20,21,29,35,51,63,79,88,100,127] mixed ?_;(repeat (first | refine RW.ro (q1) (h:= ?_) | refine RW.skip (h:= ?_) | refine RW.op (q1) (h:= ?_) | refine RW.aL (q1) (h:= ?_) | refine RW.aj (h:= ?_)));refine RW.nil ⟨aD (by kernel_rfl),aa.mk (h:= ?_)⟩)
   refine SW.aC rfl ?_
   (have fx:=(And.intro (e1) (And.intro (e2) (e3)));refine SW.au [0,1,2,5,6,7,8,9,10,11,12,13,14,15,16,17,18,19,20,21,29,35,51,63,79,88,100,127] mixed ?_;(repeat (first | refine RW.ro fx (h:= ?_) | refine RW.skip (h:= ?_) | refine RW.op fx (h:= ?_) | refine RW.aL fx (h:= ?_) | refine RW.aj (h:= ?_)));refine RW.nil ⟨aD (by kernel_rfl),aa.mk (h:= ?_)⟩)
   exact ⟨⟨x0 % l.length,Nat.le_of_lt (Nat.mod_lt x0 (by omega))⟩,bk.mk U⟩
 rintro ⟨k0,mq⟩
 dsimp only
 have e1:IntKind.i64.wrap (x1:Int)=(x1:Int):=wrap_i64 _ (by omega)
 have e2:(x1:Int).tmod 64=((x1 % 64:Nat):Int):=(Int.ofNat_tmod x1 64).symm
 have e3:IntKind.i64.wrap ((x1 % 64:Nat):Int)=((x1 % 64:Nat):Int):=wrap_i64 _ (by omega)
 have e4:IntKind.i64.wrap (1+((x1 % 64:Nat):Int))=((1+x1 % 64:Nat):Int):=by rw [show (1:Int)+((x1 % 64:Nat):Int)=((1+x1 % 64:Nat):Int) by omega];exact wrap_i64 _ (by omega)
 obtain ⟨most,hmo⟩:∃ most:Nat,1+x1 % 64=most:=⟨_,rfl⟩
 have hm1:1≤most:=by omega
 have hm2:most≤64:=by omega
 rw [hmo] at e4
 have q1:(((aA l).length:Int) != (l.length:Int))=false:=by rw [hlen];simp
 have n1:bB Tryz.prog buffer_New.f [.d (.int .i64 (m:Int)),.agg ag.zero.cells] [] 1 3 (.cW [.ptr 3 0,.d (.int .i64 0)]) (bH 3 2 m ag.zero [] 0):=Gp m m1 m8 ag.zero (zM m) 1
 simp only [bH] at n1
 refine SW.seq ?_
 (have fx:=(And.intro (e1) (And.intro (e2) (And.intro (e3) (e4))));refine SW.au [0,1,2,5,6,7,8,9,10,11,12,13,14,15,16,17,18,19,20,21,29,35,51,63,79,88,100,127] mixed ?_;(repeat (first | refine RW.ro fx (h:= ?_) | refine RW.skip (h:= ?_) | refine RW.op fx (h:= ?_) | refine RW.aL fx (h:= ?_) | refine RW.aj (h:= ?_)));refine RW.nil ⟨aD (by kernel_rfl),aa.mk (h:= ?_)⟩)
 refine SW.seq (SW.seq ?_)
 (refine SW.au [0,1,2,5,6,7,8,9,10,11,12,13,14,15,16,17,18,19,20,21,29,35,51,63,79,88,100,127] mixed ?_;(repeat (first | refine RW.ro (q1) (h:= ?_) | refine RW.skip (h:= ?_) | refine RW.op (q1) (h:= ?_) | refine RW.aL (q1) (h:= ?_) | refine RW.aj (h:= ?_)));refine RW.nil ⟨aD (by kernel_rfl),aa.mk (h:= ?_)⟩)
 refine SW.ay rfl (SW.skip (SW.seq ?_))
 (refine SW.au [0,1,2,5,6,7,8,9,10,11,12,13,14,15,16,17,18,19,20,21,29,35,51,63,79,88,100,127] mixed ?_;(repeat (first | refine RW.ro U (h:= ?_) | refine RW.skip (h:= ?_) | refine RW.op U (h:= ?_) | refine RW.aL U (h:= ?_) | refine RW.aj (h:= ?_) | (refine RW.aG (h:= ?_);(first | refine ai.mk U (hc:=n1) (h:= ?_)))));refine RW.nil ⟨aD (by kernel_rfl),aa.mk (h:= ?_)⟩)
 refine SW.seq (SW.seq ?_)
 (refine SW.au [0,1,2,5,6,7,8,9,10,11,12,13,14,15,16,17,18,19,20,21,29,35,51,63,79,88,100,127] mixed ?_;(repeat (first | refine RW.ro U (h:= ?_) | refine RW.skip (h:= ?_) | refine RW.op U (h:= ?_) | refine RW.aL U (h:= ?_) | refine RW.aj (h:= ?_)));refine RW.nil ⟨aD (by kernel_rfl),aa.mk (h:= ?_)⟩)
 refine SW.ay rfl (SW.skip (SW.seq ?_))
 have hfm:∀ t:List ah,(∀ o,o∈t→o∈l)→t.any (mc m)=false:=fun t ht=>by
  rw [List.any_eq_false]
  intro o ho
  rw [vQ.2 ⟨m1,m8,by have:=hS.form o (ht o ho);rwa [Int.toNat_natCast] at this⟩];decide
 have hwt:∀ c,xh [] c:=fun c=>⟨⟨⟨List.nodup_nil,List.nodup_nil,by simp⟩,by simp⟩,by simp,by simp [vals]⟩
 have hkw:∀ t:List ah,(∀ o,o∈t→o∈l)→(az t).wf:=fun t ht=>tn fun o ho=>⟨(hl.op o (ht o ho)).1.dr,(hl.op o (ht o ho)).1.dn⟩
 have hsub:∀ k o,o∈(aA l).take k→o∈l:=fun k o ho=>hmem o (List.mem_of_mem_take ho)
 have hP0:([]:List ah)++((aA l).take k0++(aA l).drop k0)=aA l:=by rw [List.nil_append,List.take_append_drop]
 obtain ⟨c0,p1,p2⟩:=vV hS hP0 0
 have w0:(az ([]:List ah))=ag.zero:=rfl
 have q2:=fun k=>vR m8 (hkw [] (by simp)) (hwt 0) (hl.put (m:=(aA l).take k0) (by rw [List.length_take];omega) (hsub k0)) 3 2 (by decide) k (hfm _ (hsub k0))
 rw [p1,p2,w0,List.nil_append,EA _ (by omega:k0≤(aA l).length)] at q2
 simp only [bH] at q2
 have hkl:((aA l).take k0).length=k0:=by rw [List.length_take];omega
 (refine SW.au [0,1,2,5,6,7,8,9,10,11,12,13,14,15,16,17,18,19,20,21,29,35,51,63,79,88,100,127] mixed ?_;(repeat (first | refine RW.ro U (h:= ?_) | refine RW.skip (h:= ?_) | refine RW.op U (h:= ?_) | refine RW.aL U (h:= ?_) | refine RW.aj (h:= ?_) | (refine RW.aG (h:= ?_);(first | refine ai.mk U (hc:=q2 _) (h:= ?_)))));refine RW.nil ⟨aD (by kernel_rfl),aa.mk (h:= ?_)⟩)
 refine SW.seq (SW.seq ?_)
 have q3:(((((aA l).take k0).length:Nat):Int) != (k0:Int))=false:=by rw [hkl];simp
 (refine SW.au [0,1,2,5,6,7,8,9,10,11,12,13,14,15,16,17,18,19,20,21,29,35,51,63,79,88,100,127] mixed ?_;(repeat (first | refine RW.ro (q3) (h:= ?_) | refine RW.skip (h:= ?_) | refine RW.op (q3) (h:= ?_) | refine RW.aL (q3) (h:= ?_) | refine RW.aj (h:= ?_)));refine RW.nil ⟨aD (by kernel_rfl),aa.mk (h:= ?_)⟩)
 refine SW.ay rfl (SW.skip (SW.seq ?_))
 have e5:IntKind.i64.wrap ((l.length:Int) - (k0:Int))=((l.length - k0:Nat):Int):=by rw [show (l.length:Int) - (k0:Int)=((l.length - k0:Nat):Int) by omega];exact wrap_i64 _ (by omega)
 have hrn:∀ i:Nat,(i:Int)<rZ ((l.length - k0:Nat):Int) (most:Int)↔i*most<l.length - k0:=fun i=>by
  have:=Cx (m:=l.length) (k:=k0) (most:=most) (i:=i) hm1 mq
  rwa [show (l.length:Int) - (k0:Int)=((l.length - k0:Nat):Int) by omega] at this
 have q4:∀ k,bB Tryz.prog gossip_Rounds.f [.d (.int .i64 ((l.length - k0:Nat):Int)),.d (.int .i64 (most:Int))] [] k 0 (i64 (rZ ((l.length - k0:Nat):Int) (most:Int))) []:=fun k=>rj _ _ ⟨by omega,by omega⟩ k
 have hrb:rZ ((l.length - k0:Nat):Int) (most:Int)≤1000:=by
  have:=(hrn 1000)
  by_cases h:(1000:Int)<rZ ((l.length - k0:Nat):Int) (most:Int)
  ·have:=this.1 h
   have:1000*1≤1000*most:=Nat.mul_le_mul_left _ hm1
   omega
  ·omega
 generalize rZ ((l.length - k0:Nat):Int) (most:Int)=rn at hrn q4 hrb
 (refine SW.au [0,1,2,5,6,7,8,9,10,11,12,13,14,15,16,17,18,19,20,21,29,35,51,63,79,88,100,127] mixed ?_;(repeat (first | refine RW.ro (e5) (h:= ?_) | refine RW.skip (h:= ?_) | refine RW.op (e5) (h:= ?_) | refine RW.aL (e5) (h:= ?_) | refine RW.aj (h:= ?_) | (refine RW.aG (h:= ?_);(first | refine ai.mk (e5) (hc:=q4 _) (h:= ?_)))));refine RW.nil ⟨aD (by kernel_rfl),aa.mk (h:= ?_)⟩)
 refine SW.seq (SW.seq ?_)
 (refine SW.au [0,1,2,5,6,7,8,9,10,11,12,13,14,15,16,17,18,19,20,21,29,35,51,63,79,88,100,127] mixed ?_;(repeat (first | refine RW.ro U (h:= ?_) | refine RW.skip (h:= ?_) | refine RW.op U (h:= ?_) | refine RW.aL U (h:= ?_) | refine RW.aj (h:= ?_)));refine RW.nil ⟨aD (by kernel_rfl),aa.mk (h:= ?_)⟩)
 have a1:∀ h,SV.aM id (eU m h 2)=eU m h 2:=fun h=>eU.aP _ _ _ _
 have a2:∀ h,SV.aF (fun n=>decide (n<4)) (eU m h 2)=true:=fun h=>eU.ok _ _ _ _ rfl
 have mz:aN Dt.cells ov ([]:MM Dt ah)=[]:=rfl
 have i0:Ir l k0 most 0 k0:=⟨(Cz mq).symm,mq⟩
 refine SW.block ?_
 refine SW.fI (α:={s:Nat×Nat×Nat // s.1≤1000∧Ir l k0 most s.1 s.2.1}) (fun s=>⟨[(15,i64 s.1.1),(14,i64 rn),(10,.ptr 3 0),(9,i64 most),(8,i64 s.1.2.1),(0,ops l)],[(3,.box 72 (eU m (az ((aA l).take s.1.2.1)) 2)),(2,.map [] s.1.2.2)],4⟩) (fun s=>1000 - s.1.1) ⟨(0,k0,c0),by omega,i0⟩ id (And.intro mz (And.intro (a1 (az ((aA l).take k0))) (a2 (az ((aA l).take k0))))) (round:= ?_)
 rintro ⟨⟨i,kk,c⟩,hi,hI⟩
 dsimp only at hi hI ⊢
 have hkk:=hI.le
 have jK:=hI.at_
 have hsp:(aA l).take kk++(aA l).drop kk=aA l:=List.take_append_drop _ _
 have zf:∀ o:SV,bV [.d (.int .u8 0),.d (.int .u8 0),.d (.int .u8 0),.d (.int .u32 0),.d (.int .u32 0),.d (.int .u32 0),.d (.int .u32 0),.d (.int .u32 0),.d (.int .u32 0),.d (.int .u32 0),.d (.int .u32 0),.d .aY] 0 (fe 1 0 1 (az l) o)=fe 1 0 1 (az l) o:=fun o=>rfl
 have f1:=fun o=>y5 1 0 1 (az l) o
 have f2:=fun o=>DA 1 0 1 (az l) o
 have h1':=fun k=>Ec m (az ((aA l).take kk)) [] c 3 2 (by decide) k
 simp only [bH] at h1'
 refine SW.seq (SW.seq ?_)
 by_cases h:(i:Int)<rn
 ·have h1:decide ((i:Int)<rn)=true:=by simp only [decide_eq_true_eq];exact h
  have hlt:=(hrn i).1 h
  have hk2:kk<l.length:=by unfold Ez at jK;omega
  obtain ⟨w,hw⟩:∃ w,w=min most (l.length - kk):=⟨_,rfl⟩
  have hT:((aA l).drop kk).take most=((aA l).drop kk).take (kk+w - kk):=by
   rw [Nat.add_sub_cancel_left,hw,← hlen,← List.length_drop (l:=aA l),List.take_eq_take_iff.2]
   omega
  have hTl:(((aA l).drop kk).take most).length=w:=by rw [List.length_take,List.length_drop,hlen,hw]
  have hsp2:(aA l).take kk++(((aA l).drop kk).take most++(aA l).drop (kk+w))=aA l:=by rw [hT];exact rM _ (by omega)
  have hmr:(aA l).take kk++((aA l).drop kk).take most=(aA l).take (kk+w):=by rw [hT];exact zT _ (by omega)
  obtain ⟨c1,p3,p4⟩:=vV hS hsp2 c
  have hsT:∀ o,o∈((aA l).drop kk).take most→o∈l:=fun o ho=>hmem o (List.mem_of_mem_drop (List.mem_of_mem_take ho))
  have d1:∀ k,bB Tryz.prog gossip_Delta.f [.d (.int .u8 0),.d (.int .u8 1),ops l,.agg (az ((aA l).take kk)).cells,.d (.int .i64 (most:Int))] [] k 0 (.cW [.agg (fe 1 0 1 (az l) (ops (((aA l).drop kk).take most))),.d (.int .i64 0)]) []:=fun k=>by
   have:=lG 0 1 l (az ((aA l).take kk)) most hOk k
   rw [vU hS hsp hm1 hm2] at this
   have hr:vq (((aA l).drop kk).take most)= .sl (((aA l).drop kk).take most).length ((((aA l).drop kk).take most).flatMap ah.ds):=by
    unfold vq
    rw [if_neg]
    rw [List.isEmpty_iff]
    intro e;rw [e] at hTl;simp at hTl;omega
   rw [hr] at this
   exact this
  have q5:=fun k=>vR m8 (hkw ((aA l).take kk) (hsub kk)) (hwt c) (hl.put (m:=((aA l).drop kk).take most) (by omega) hsT) 3 2 (by decide) k (hfm _ hsT)
  rw [p3,p4,hmr] at q5
  have q6:=fun k=>ja (((aA l).drop kk).take most) (by omega) (fun x hx=> .inr (hl.op x (hsT x hx)).1.w.jf) k
  simp only [bH] at q5
  have f3:=oA 1 0 1 (az l) (ops (((aA l).drop kk).take most)) rfl
  have e6:IntKind.i64.wrap ((l.length:Int) - (kk:Int))=((l.length - kk:Nat):Int):=by rw [show (l.length:Int) - (kk:Int)=((l.length - kk:Nat):Int) by omega];exact wrap_i64 _ (by omega)
  have e7:(if ((l.length - kk:Nat):Int)<(most:Int) then ((l.length - kk:Nat):Int) else (most:Int))=(w:Int):=by split <;> omega
  have e8:((w:Int) != (w:Int))=false:=by simp
  have e9:IntKind.i64.wrap ((kk:Int)+(w:Int))=((kk+w:Nat):Int):=by rw [show (kk:Int)+(w:Int)=((kk+w:Nat):Int) by omega];exact wrap_i64 _ (by omega)
  have ea:IntKind.i64.wrap ((kk+w:Nat):Int)=((kk+w:Nat):Int):=wrap_i64 _ (by omega)
  have eb:IntKind.i64.wrap ((i:Int)+1)=((i+1:Nat):Int):=wrap_i64 _ (by omega)
  have hI2:Ir l k0 most (i+1) (kk+w):=⟨by rw [Cy,← jK,hw],by omega⟩
  generalize ((aA l).drop kk).take most=T at*
  subst hTl
  (refine SW.au [0,1,2,5,6,7,8,9,10,11,12,13,14,15,16,17,18,19,20,21,29,35,51,63,79,88,100,127] mixed ?_;(repeat (first | refine RW.ro (h1) (h:= ?_) | refine RW.skip (h:= ?_) | refine RW.op (h1) (h:= ?_) | refine RW.aL (h1) (h:= ?_) | refine RW.aj (h:= ?_)));refine RW.nil ⟨aD (by kernel_rfl),aa.mk (h:= ?_)⟩)
  refine SW.aC rfl (SW.skip (SW.seq (SW.block (SW.seq ?_))))
  (have fx:=(And.intro (zf) (And.intro (f1) (f3)));refine SW.au [0,1,2,5,6,7,8,9,10,11,12,13,14,15,16,17,18,19,20,21,29,35,51,63,79,88,100,127] mixed ?_;(repeat (first | refine RW.ro fx (h:= ?_) | refine RW.skip (h:= ?_) | refine RW.op fx (h:= ?_) | refine RW.aL fx (h:= ?_) | refine RW.aj (h:= ?_) | (refine RW.aG (h:= ?_);(first | refine ai.mk fx (hc:=h1' _) (h:= ?_) | refine ai.mk fx (hc:=d1 _) (h:= ?_)))));refine RW.nil ⟨aD (by kernel_rfl),aa.mk (h:= ?_)⟩)
  refine SW.seq (SW.seq ?_)
  (refine SW.au [0,1,2,5,6,7,8,9,10,11,12,13,14,15,16,17,18,19,20,21,29,35,51,63,79,88,100,127] mixed ?_;(repeat (first | refine RW.ro U (h:= ?_) | refine RW.skip (h:= ?_) | refine RW.op U (h:= ?_) | refine RW.aL U (h:= ?_) | refine RW.aj (h:= ?_)));refine RW.nil ⟨aD (by kernel_rfl),aa.mk (h:= ?_)⟩)
  refine SW.ay rfl (SW.skip (SW.seq ?_))
  (refine SW.au [0,1,2,5,6,7,8,9,10,11,12,13,14,15,16,17,18,19,20,21,29,35,51,63,79,88,100,127] mixed ?_;(repeat (first | refine RW.ro (And.intro (f1) (f2)) (h:= ?_) | refine RW.skip (h:= ?_) | refine RW.op (And.intro (f1) (f2)) (h:= ?_) | refine RW.aL (And.intro (f1) (f2)) (h:= ?_) | refine RW.aj (h:= ?_) | (refine RW.aG (h:= ?_);(first | refine ai.mk (And.intro (f1) (f2)) (hc:=q5 _) (h:= ?_)))));refine RW.nil ⟨aD (by kernel_rfl),aa.mk (h:= ?_)⟩)
  refine SW.seq (SW.seq ?_)
  (have fx:=(And.intro (f1) (And.intro (f2) (And.intro (e6) (And.intro (e7) (e8)))));refine SW.au [0,1,2,5,6,7,8,9,10,11,12,13,14,15,16,17,18,19,20,21,29,35,51,63,79,88,100,127] mixed ?_;(repeat (first | refine RW.ro fx (h:= ?_) | refine RW.skip (h:= ?_) | refine RW.op fx (h:= ?_) | refine RW.aL fx (h:= ?_) | refine RW.aj (h:= ?_) | (refine RW.aG (h:= ?_);(first | refine ai.mk fx (hc:=q6 _) (h:= ?_)))));refine RW.nil ⟨aD (by kernel_rfl),aa.mk (h:= ?_)⟩)
  refine SW.ay rfl (SW.skip ?_)
  (refine SW.au [0,1,2,5,6,7,8,9,10,11,12,13,14,15,16,17,18,19,20,21,29,35,51,63,79,88,100,127] mixed ?_;(repeat (first | refine RW.ro (And.intro (e9) (ea)) (h:= ?_) | refine RW.skip (h:= ?_) | refine RW.op (And.intro (e9) (ea)) (h:= ?_) | refine RW.aL (And.intro (e9) (ea)) (h:= ?_) | refine RW.aj (h:= ?_)));refine RW.nil ⟨aD (by kernel_rfl),aa.mk (h:= ?_)⟩)
  (refine SW.au [0,1,2,5,6,7,8,9,10,11,12,13,14,15,16,17,18,19,20,21,29,35,51,63,79,88,100,127] mixed ?_;(repeat (first | refine RW.ro (eb) (h:= ?_) | refine RW.skip (h:= ?_) | refine RW.op (eb) (h:= ?_) | refine RW.aL (eb) (h:= ?_) | refine RW.aj (h:= ?_)));refine RW.nil ⟨aD (by kernel_rfl),aa.mk (h:= ?_)⟩)
  refine ⟨⟨(i+1,kk+T.length,c1),by show i+1≤1000;omega,hI2⟩,id,by show 1000 - (i+1)<1000 - i;omega,?_⟩
  exact bk.mk (And.intro mz (And.intro (a1 (az ((aA l).take (kk+T.length)))) (a2 (az ((aA l).take (kk+T.length))))))
 have h1:decide ((i:Int)<rn)=false:=by simp only [decide_eq_false_iff_not];exact h
 have hk2:kk=l.length:=by
  have: ¬ i*most<l.length - k0:=fun hh=>h ((hrn i).2 hh)
  unfold Ez at jK;omega
 subst hk2
 have hall:(aA l).take l.length=aA l:=by rw [← hlen,List.take_length]
 have hnone:(aA l).drop l.length=[]:=by rw [← hlen,List.drop_length]
 have d1:∀ k,bB Tryz.prog gossip_Delta.f [.d (.int .u8 0),.d (.int .u8 1),ops l,.agg (az l).cells,.d (.int .i64 (most:Int))] [] k 0 (.cW [.agg (fe 1 0 1 (az l) (.d .aY)),.d (.int .i64 0)]) []:=fun k=>by
  have:=lG 0 1 l (az ((aA l).take l.length)) most hOk k
  rw [vU hS hsp hm1 hm2,hnone,List.take_nil,hall,vW] at this
  exact this
 rw [hall,vW] at h1' ⊢
 have f3:=oA 1 0 1 (az l) (.d .aY) rfl
 have q5:=fun k=>dG l (by omega) (fun o ho=>⟨(hl.op o ho).1.dr,(hl.op o ho).1.dn⟩) k
 have d2:∀ d:ag,decide (d=d)=true:=fun d=>by simp
 have e8:((l.length:Int) == (l.length:Int))=true:=by simp
 (refine SW.au [0,1,2,5,6,7,8,9,10,11,12,13,14,15,16,17,18,19,20,21,29,35,51,63,79,88,100,127] mixed ?_;(repeat (first | refine RW.ro (h1) (h:= ?_) | refine RW.skip (h:= ?_) | refine RW.op (h1) (h:= ?_) | refine RW.aL (h1) (h:= ?_) | refine RW.aj (h:= ?_)));refine RW.nil ⟨aD (by kernel_rfl),aa.mk (h:= ?_)⟩)
 refine SW.ay rfl (SW.exit (SW.seq ?_))
 (have fx:=(And.intro (zf) (And.intro (f1) (f3)));refine SW.au [0,1,2,5,6,7,8,9,10,11,12,13,14,15,16,17,18,19,20,21,29,35,51,63,79,88,100,127] mixed ?_;(repeat (first | refine RW.ro fx (h:= ?_) | refine RW.skip (h:= ?_) | refine RW.op fx (h:= ?_) | refine RW.aL fx (h:= ?_) | refine RW.aj (h:= ?_) | (refine RW.aG (h:= ?_);(first | refine ai.mk fx (hc:=h1' _) (h:= ?_) | refine ai.mk fx (hc:=d1 _) (h:= ?_)))));refine RW.nil ⟨aD (by kernel_rfl),aa.mk (h:= ?_)⟩)
 refine SW.seq ?_
 (have fx:=(And.intro (f1) (And.intro (f2) (And.intro (d2) (e8))));refine SW.au [0,1,2,5,6,7,8,9,10,11,12,13,14,15,16,17,18,19,20,21,29,35,51,63,79,88,100,127] mixed ?_;(repeat (first | refine RW.ro fx (h:= ?_) | refine RW.skip (h:= ?_) | refine RW.op fx (h:= ?_) | refine RW.aL fx (h:= ?_) | refine RW.aj (h:= ?_) | (refine RW.aG (h:= ?_);(first | refine ai.mk fx (hc:=h1' _) (h:= ?_) | refine ai.mk fx (hc:=q5 _) (h:= ?_) | refine ai.mk fx (hc:=pY _) (h:= ?_)))));refine RW.nil ⟨aD (by kernel_rfl),aa.mk (h:= ?_)⟩)
 refine SW.ret ?_
 exact End.mk [] (h4:=⟨rfl,rfl⟩)
end Go.Proofs.YtnakpdoioammhaaGreatDoor
