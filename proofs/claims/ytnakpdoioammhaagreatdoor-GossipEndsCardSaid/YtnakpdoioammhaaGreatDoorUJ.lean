/-
 Order: what is before what; rows: found, kept, known.
-/
import Derived.Test.YtnakpdoioammhaaGreatDoorUK
import Derived.Test.YtnakpdoioammhaaGreatDoorUG
import Derived.Test.YtnakpdoioammhaaGreatDoorUI
import Derived.Test.YtnakpdoioammhaaGreatDoorUH
set_option linter.unusedSectionVars false
set_option linter.unusedVariables false
set_option linter.unusedSimpArgs false
namespace Go.Proofs.YtnakpdoioammhaaGreatDoor
open Go.Sl Go.Proofs
section
attribute [local irreducible] SW RW bB SC ai aa
theorem zy (a b:ah):Go.Sl.Pure Tryz.prog order_Before.f [.agg a.cells,.agg b.cells] (bl (a.before b)):=by
 refine order_Before.enter (by first | rfl | simp [SV.ok,SV.aF]) (by first | rfl | simp [Hp.ok,Ob.ok,SV.ok,SV.aF,ag.an]) (by simp) ?_
 dsimp only [order_Before.s,Co.M,Co.G,Co.J,Co.H,Co.N,Co.F,Co.C,Co.Z,Co.B,Co.b8,Co.aJ,Co.b_,Co.i6,Co.z8,Co.cn]
 refine SW.seq ?_
 (refine SW.au [0,1,2,3,4] mixed ?_;(repeat (first | refine RW.ro U (h:= ?_) | refine RW.skip (h:= ?_) | refine RW.op U (h:= ?_) | refine RW.aL U (h:= ?_) | refine RW.aj (h:= ?_) | (refine RW.aG (h:= ?_);(first | refine ai.mk U (hc:=lZ _ _ _) (h:= ?_)))));refine RW.nil ⟨by kernel_rfl,aa.mk (h:= ?_)⟩)
 refine SW.seq ?_
 (have fx:=(And.intro (a.gu) (b.qA));refine SW.au [0,1,2,3,4] mixed ?_;(repeat (first | refine RW.ro fx (h:= ?_) | refine RW.skip (h:= ?_) | refine RW.op fx (h:= ?_) | refine RW.aL fx (h:= ?_) | refine RW.aj (h:= ?_) | (refine RW.aG (h:= ?_);(first | refine ai.mk fx (hc:=lZ _ _ _) (h:= ?_)))));refine RW.nil ⟨by kernel_rfl,aa.mk (h:= ?_)⟩)
 refine SW.ret ?_
 exact End.mk [] (h4:=⟨rfl,rfl⟩)
theorem zz (a b:ah)(k:Nat):bB Tryz.prog order_Before.f [.agg a.cells,.agg b.cells] [] k 0 (bl (a.before b)) []:=(zy a b).sc rfl k
def vM (p:ah→Bool)(l:List ah):Int:=match l.findIdx? p with
 | some i=>(i:Int)
 | none=> -1
theorem Cf (p:ah→Bool)(l:List ah):decide (vM p l≥0)=l.any p:=by
 unfold vM
 cases h:l.findIdx? p with
 | none=>
  rw [List.findIdx?_eq_none_iff] at h
  have:l.any p=false:=by rw [List.any_eq_false];exact fun x hx=>by rw [h x hx];decide
  rw [this];rfl
 | some i=>
  rw [List.findIdx?_eq_some_iff_getElem] at h
  obtain ⟨h1,h2,_⟩:=h
  have:l.any p=true:=by rw [List.any_eq_true];exact ⟨_,List.getElem_mem h1,h2⟩
  rw [this]
  simp
def rH (g t:Nat)(ds:List DV)(p:ah→Bool)(l:List ah):Prop:=∀ x,x∈l→∀ q k,bB Tryz.prog g [.agg x.cells,.ptr q 0] [(q,.box t (ds.map .d))] k 0 (bl (p x)) [(q,.box t (ds.map .d))]
set_option maxHeartbeats 2000000 in
theorem zA {g t:Nat}{ds:List DV}{p:ah→Bool}{l:List ah}(hp:rH g t ds p l)(hl:l.length<4611686018427387904):
  SB Tryz.prog slices_IndexFunc_Lapi_Op_api_Op.f [ops l,.fn (.func g) [] [.ptr 0 0]] [(0,.box t (ds.map .d))] 1 0 fun r F=>r=i64 (vM p l)∧F=[(0,.box t (ds.map .d))]:=by
 have ok1:∀ q:Nat→Bool,SV.aF q (ds.map SV.d)=true:=fun q=>SV.cm _
 have rn1:∀ ρ:Nat→Nat,SV.aM ρ (ds.map SV.d)=ds.map SV.d:=fun ρ=>SV.dW _
 refine slices_IndexFunc_Lapi_Op_api_Op.enter (by simp [SV.ok,SV.aF]) (by simp [Hp.ok,Ob.ok,ok1]) (by simp) ?_
 dsimp only [slices_IndexFunc_Lapi_Op_api_Op.s,Co.M,Co.G,Co.J,Co.H,Co.N,Co.F,Co.C,Co.Z,Co.B,Co.b8,Co.aJ,Co.b_,Co.i6,Co.z8,Co.cn]
 refine SW.seq ?_
 refine SW.g0 [0,1,4,5,7,8,9,16] mixed U ?_
 refine SW.seq (SW.seq ?_)
 refine SW.g0 [0,1,4,5,7,8,9,16] mixed U ?_
 refine SW.block ?_
 refine SW.fI (α:={i:Nat // i≤l.length∧∀ j x,j<i→l[j]? =some x→p x=false}) (fun i=>⟨[(8,i64 i.1),(7,i64 l.length),(0,ops l),(1,.fn (.func g) [] [.ptr 0 0])],[(0,.box t (ds.map .d))],1⟩) (fun i=>l.length - i.1) ⟨0,by omega,by omega⟩ id (And.intro (ok1 (fun n=>decide (n<1))) (rn1 id)) (round:= ?_)
 rintro ⟨i,hi,hs⟩
 dsimp only
 by_cases h:i<l.length
 ·have h1:decide ((i:Int)<l.length)=true:=by simp only [decide_eq_true_eq];omega
  obtain ⟨x,hx⟩:=bR h
  have e2:IntKind.i64.wrap ((i:Int)+1)=((i+1:Nat):Int):=wrap_i64 _ (by omega)
  have hc:=hp x (List.mem_of_getElem? hx) 0
  refine SW.seq ?_
  refine SW.g0 [0,1,4,5,7,8,9,16] mixed (h1) ?_
  refine SW.seq (SW.aC rfl (SW.skip ?_))
  refine SW.seq (SW.block (SW.seq ?_))
  refine SW.g0 [0,1,4,5,7,8,9,16] mixed U ?_
  refine SW.seq ?_
  rcases hg:p x with _ | _ <;> rw [hg] at hc
  ·refine SW.g1 [0,1,4,5,7,8,9,16] mixed (And.intro (eX hx) (bQ hx)) hc ?_
   refine SW.ay rfl (SW.skip ?_)
   refine SW.g0 [0,1,4,5,7,8,9,16] mixed (e2) ?_
   refine ⟨⟨i+1,by omega,fun j y hj hy=> ?_⟩,id,by show l.length - (i+1)<l.length - i;omega,?_⟩
   ·rcases Nat.lt_or_ge j i with h2 | h2
    ·exact hs j y h2 hy
    ·have:j=i:=by omega
     subst this
     rw [hx] at hy;injection hy with hy;rw [← hy];exact hg
   ·exact bk.mk (And.intro (ok1 (fun n=>decide (n<1))) (rn1 id))
  ·have e:vM p l=(i:Int):=by
    unfold vM
    have:l.findIdx? p=some i:=by
     rw [List.findIdx?_eq_some_iff_getElem]
     refine ⟨h,?_,fun j hj=> ?_⟩
     ·rw [List.getElem?_eq_getElem h] at hx;injection hx with hx;rw [hx,hg]
     ·have:=hs j l[j] hj (List.getElem?_eq_getElem _);simp [this]
    rw [this]
   rw [e]
   refine SW.g1 [0,1,4,5,7,8,9,16] mixed (And.intro (eX hx) (bQ hx)) hc ?_
   refine SW.aC rfl (SW.seq ?_)
   refine SW.g0 [0,1,4,5,7,8,9,16] mixed U ?_
   refine SW.ret ?_
   exact End.mk [(0,.box t (ds.map .d))] (h4:=⟨rfl,rfl⟩) (h6:=by simp [Hp.ok,Ob.ok,ok1])
 ·have h1:decide ((i:Int)<l.length)=false:=by simp only [decide_eq_false_iff_not];omega
  have e:vM p l= -1:=by
   unfold vM
   have:l.findIdx? p=none:=by
    rw [List.findIdx?_eq_none_iff]
    intro x hx
    obtain ⟨j,hj⟩:=List.mem_iff_getElem?.1 hx
    exact hs j x (by have:=dw hj;omega) hj
   rw [this]
  rw [e]
  refine SW.seq ?_
  refine SW.g0 [0,1,4,5,7,8,9,16] mixed (h1) ?_
  refine SW.seq (SW.ay rfl (SW.exit ?_))
  refine SW.seq ?_
  refine SW.g0 [0,1,4,5,7,8,9,16] mixed U ?_
  refine SW.ret ?_
  exact End.mk [(0,.box t (ds.map .d))] (h4:=⟨rfl,rfl⟩) (h6:=by simp [Hp.ok,Ob.ok,ok1])
theorem zB {g t:Nat}{ds:List DV}{p:ah→Bool}{l:List ah}(hp:rH g t ds p l)(hl:l.length<4611686018427387904)(q k:Nat):
  bB Tryz.prog slices_IndexFunc_Lapi_Op_api_Op.f [ops l,.fn (.func g) [] [.ptr q 0]] [(q,.box t (ds.map .d))] k 0 (i64 (vM p l)) [(q,.box t (ds.map .d))]:=by
 have:=SB.oW [q] (zA hp hl) (by simp) (by simp [lk]) k
 simpa [SV.aP,SV.aM,Hp.aP,Ob.aP,iA,SV.dW] using this
theorem uf {g t:Nat}{ds:List DV}{p:ah→Bool}{l:List ah}(hp:rH g t ds p l)(hl:l.length<4611686018427387904):
  SB Tryz.prog slices_ContainsFunc_Lapi_Op_api_Op.f [ops l,.fn (.func g) [] [.ptr 0 0]] [(0,.box t (ds.map .d))] 1 0 fun r F=>r=bl (l.any p)∧F=[(0,.box t (ds.map .d))]:=by
 have ok1:∀ q:Nat→Bool,SV.aF q (ds.map SV.d)=true:=fun q=>SV.cm _
 refine slices_ContainsFunc_Lapi_Op_api_Op.enter (by simp [SV.ok,SV.aF]) (by simp [Hp.ok,Ob.ok,ok1]) (by simp) ?_
 dsimp only [slices_ContainsFunc_Lapi_Op_api_Op.s,Co.M,Co.G,Co.J,Co.H,Co.N,Co.F,Co.C,Co.Z,Co.B,Co.b8,Co.aJ,Co.b_,Co.i6,Co.z8,Co.cn]
 rw [← Cf]
 have hi:=zB hp hl 0
 refine SW.seq ?_
 refine SW.g0 [0,1,4] mixed U ?_
 refine SW.seq ?_
 refine SW.g1 [0,1,4] mixed U hi ?_
 refine SW.ret ?_
 exact End.mk [(0,.box t (ds.map .d))] (h4:=⟨rfl,rfl⟩) (h6:=by simp [Hp.ok,Ob.ok,ok1])
theorem ug {g t:Nat}{ds:List DV}{p:ah→Bool}{l:List ah}(hp:rH g t ds p l)(hl:l.length<4611686018427387904)(q k:Nat):
  bB Tryz.prog slices_ContainsFunc_Lapi_Op_api_Op.f [ops l,.fn (.func g) [] [.ptr q 0]] [(q,.box t (ds.map .d))] k 0 (bl (l.any p)) [(q,.box t (ds.map .d))]:=by
 have:=SB.oW [q] (uf hp hl) (by simp) (by simp [lk]) k
 simpa [SV.aP,SV.aM,Hp.aP,Ob.aP,iA,SV.dW] using this
end
section
attribute [local irreducible] SW RW bB SC ai aa
theorem x_.len {M:MM Dt Int}{l:List ah}(h:x_ M l)(hk:(MM.keys M).Nodup):M.length=(gC l).length:=by
 have hp:(MM.keys M).Perm ((gC l).map (·.dot)):=by
  rw [List.perm_ext_iff_of_nodup hk (jR l)]
  intro d
  rw [← MM.lS]
  unfold MM.has
  rw [h d]
  have e:(zg l d).isSome=(l.findIdx? fun o=>decide (o.dot=d)).isSome:=by
   unfold zg
   cases l.findIdx? fun o=>decide (o.dot=d) <;> rfl
  rw [e,List.findIdx?_isSome,List.any_eq_true]
  constructor
  ·rintro ⟨o,ho,e⟩
   have hs:(dD l d).isSome=true:=nB.2 ⟨o,ho,of_decide_eq_true e⟩
   obtain ⟨x,hx⟩:=Option.isSome_iff_exists.1 hs
   obtain ⟨h1,h2⟩:=qH hx
   exact List.mem_map.2 ⟨x,AO.2 (by rw [h2];exact hx),h2⟩
  ·intro hm
   obtain ⟨x,hx,e⟩:=List.mem_map.1 hm
   exact ⟨x,(k_ l).subset hx,by simp [e]⟩
 have:=hp.length_eq
 simpa [MM.keys] using this
theorem Cg (l:List ah):(gC l).length=l.length↔cS l:=by
 constructor
 ·intro h
  have:=(k_ l).eq_of_length h
  rw [← this];exact jR l
 ·intro h;rw [h.fst]
theorem zC {v:ag}{o:ah}(hv:v.wf)(ho:o.dot.wf):(dx v o).wf:=by
 unfold dx
 split
 ·refine ag.AE hv ?_
  rename_i hr
  have:=hv _ hr
  have:=ho.2
  omega
 ·exact hv
theorem vN:∀ (l:List ah) (v:ag),v.wf→(∀ o,o∈l→o.dot.wf)→(l.foldl dx v).wf
 | [],v,hv,_=>hv
 | o::l,v,hv,h=>vN l _ (zC hv (h o (by simp))) fun x hx=>h x (by simp [hx])
theorem tn {l:List ah}(h:∀ o,o∈l→o.dot.wf):(az l).wf:=vN l _ ag.Db h
def Ch (o a:ah):Bool:=a.before o && (decide ((a.time:Int)≥o.time) || !o.dep.above a.dep)
set_option maxHeartbeats 2000000 in
theorem Ci (o a:ah):SB Tryz.prog order_index_fits_1.f [.agg a.cells,.ptr 0 0] [(0,.box 51 (o.ds.map .d))] 1 0 fun r F=>r=bl (Ch o a)∧F=[(0,.box 51 (o.ds.map .d))]:=by
 rw [ah.qp]
 have ok1:∀ q:Nat→Bool,SV.aF q o.cells=true:=fun q=>ah.an o q
 have ok2:∀ q:Nat→Bool,SV.aF q a.cells=true:=fun q=>ah.an a q
 refine order_index_fits_1.enter (by simp [SV.ok,SV.aF,ok2]) (by simp [Hp.ok,Ob.ok,ok1]) (by simp) ?_
 dsimp only [order_index_fits_1.s,Co.M,Co.G,Co.J,Co.H,Co.N,Co.F,Co.C,Co.Z,Co.B,Co.b8,Co.aJ,Co.b_,Co.i6,Co.z8,Co.cn]
 have hA:=fun k=>zz a o k
 have hB:=fun k=>oK o.dep a.dep k
 unfold Ch
 refine SW.seq ?_
 refine SW.g0 [0,1,2,3] mixed U ?_
 refine SW.seq ?_
 rcases h1:a.before o with _ | _ <;> rw [h1] at hA
 ·refine SW.g1 [0,1,2,3] mixed U hA ?_
  refine SW.ret ?_
  exact End.mk [(0,.box 51 o.cells)] (h4:=⟨rfl,rfl⟩) (h6:=by simp [Hp.ok,Ob.ok,ok1])
 rcases h2:decide ((a.time:Int)≥o.time) with _ | _
 ·refine SW.g2 [0,1,2,3] mixed (And.intro (h2) (And.intro (a.qA) (o.qA))) hA hB ?_
  refine SW.ret ?_
  exact End.mk [(0,.box 51 o.cells)] (h4:=⟨rfl,rfl⟩) (h6:=by simp [Hp.ok,Ob.ok,ok1])
 ·refine SW.g2 [0,1,2,3] mixed (h2) hA hB ?_
  refine SW.ret ?_
  exact End.mk [(0,.box 51 o.cells)] (h4:=⟨rfl,rfl⟩) (h6:=by simp [Hp.ok,Ob.ok,ok1])
theorem Cj (o:ah)(l:List ah):rH order_index_fits_1.f 51 o.ds (Ch o) l:=fun a _ q k=>by
 have:=SB.oW [q] (Ci o a) (by simp) (by simp [lk]) k
 have e:SV.aM (iA [q] k) a.cells=a.cells:=SV.dW _
 simpa [SV.aP,SV.aM,Hp.aP,Ob.aP,iA,SV.dW,e] using this
def rI (l:List ah)(v:ag)(o:ah):Bool:=v.above o.dep && !l.any (Ch o)
set_option maxHeartbeats 2000000 in
theorem D8 (l:List ah)(hl:l.length<4611686018427387904)(o:ah)(v:ag):SB Tryz.prog order_index_fits.f [.agg [ops l,.mp 0],.agg o.cells,.agg v.cells] [] 1 0 fun r F=>r=bl (rI l v o)∧F=[]:=by
 have ok2:∀ q:Nat→Bool,SV.aF q o.cells=true:=fun q=>ah.an o q
 have ok3:∀ q:Nat→Bool,SV.aF q v.cells=true:=fun q=>ag.an v q
 refine order_index_fits.enter (by simp [SV.ok,SV.aF,ok2,ok3]) (by simp [Hp.ok]) (by simp) ?_
 dsimp only [order_index_fits.s,Co.M,Co.G,Co.J,Co.H,Co.N,Co.F,Co.C,Co.Z,Co.B,Co.b8,Co.aJ,Co.b_,Co.i6,Co.z8,Co.cn]
 have hA:=fun k=>oK v o.dep k
 have hB:=fun k=>ug (Cj o l) hl 2 k
 rw [ah.qp] at hB
 unfold rI
 refine SW.seq ?_
 refine SW.g0 [0,1,2,3,4,5,6] mixed U ?_
 refine SW.seq ?_
 rcases h1:v.above o.dep with _ | _ <;> rw [h1] at hA
 ·refine SW.g1 [0,1,2,3,4,5,6] mixed (o.qA) hA ?_
  refine SW.ret ?_
  exact End.mk [] (h4:=⟨rfl,rfl⟩)
 ·refine SW.g2 [0,1,2,3,4,5,6] mixed (o.qA) hA hB ?_
  refine SW.ret ?_
  exact End.mk [] (h4:=⟨rfl,rfl⟩)
theorem D9 (l:List ah)(hl:l.length<4611686018427387904)(o:ah)(v:ag)(q k:Nat):bB Tryz.prog order_index_fits.f [.agg [ops l,.mp q],.agg o.cells,.agg v.cells] [] k 0 (bl (rI l v o)) []:=by
 have h:=SB.at (D8 l hl o v) (fun n=>if n=0 then q else k) k (fun n m h1 h2 _=>by omega) (fun n hn p μ M w vals hr hS=>by
  obtain ⟨u,us,e,r1,r2⟩:=aQ.aI.1 hr
  obtain ⟨vs,_,r3⟩:=Rp.c8.1 r1
  obtain ⟨u1,us1,e1,r4,r5⟩:=aQ.aI.1 r3
  obtain ⟨u2,us2,e2,r6,r7⟩:=aQ.aI.1 r5
  have:=Rp.FX r6
  have hn0:n=0:=by omega
  subst hn0
  simpa using this) (fun i hi=>by omega)
 have e:∀ ρ,SV.aM ρ o.cells=o.cells:=fun ρ=>SV.dW _
 have e2:∀ ρ,SV.aM ρ v.cells=v.cells:=fun ρ=>ag.bN v ρ
 unfold bB
 simp only [SV.aP,SV.aM,e,e2,if_true,reduceIte,Hp.aP,List.map_nil] at h
 refine SC.mono h ?_
 rintro r F ⟨r0,F0,⟨rfl,rfl⟩,rfl,rfl⟩
 exact ⟨by simp [SV.aP],by simp [Hp.aP]⟩
end
section
attribute [local irreducible] SW RW bB SC ai aa
def mF (l:List ah):Bool:=(decide ((gC l).length=l.length) && decide ((az l).count=l.length)) && l.all (rI l (az l))
theorem tq {l:List ah}(hd:∀ o,o∈l→o.dot.r<8∧0<o.dot.n):mF l=true↔∀ o,o∈l→sP l o:=by
 rw [yO hd]
 unfold mF
 simp only [Bool.and_eq_true,decide_eq_true_eq,Cg,List.all_eq_true]
 rw [and_assoc]
 refine and_congr_right fun _=>and_congr_right fun _=>forall_congr' fun o=>forall_congr' fun ho=> ?_
 unfold rI
 simp only [Bool.and_eq_true,Bool.not_eq_true',List.any_eq_false]
 refine and_congr_right fun _=>forall_congr' fun a=>forall_congr' fun ha=> ?_
 unfold Ch
 rcases a.before o <;> rcases o.dep.above a.dep <;> simp <;> omega
theorem xd {n:Int}{l:List ah}(h1: ¬ (n<1∨8<n))(hf:∀ o,o∈l→eM n o=0):iW n l=if mF l then 0 else 9:=by
 have hF:∀ o,o∈l→Go.Sl.Form n.toNat o:=fun o ho=>(js.1 (hf o ho)).2.2
 have hd:∀ o,o∈l→o.dot.r<8∧0<o.dot.n:=fun o ho=>⟨by have:=(hF o ho).r;omega,(hF o ho).pos⟩
 unfold iW
 rw [if_neg h1,if_pos hF]
 by_cases hr:mF l=true
 ·rw [if_pos hr,if_pos ((tq hd).1 hr)]
 ·rw [if_neg hr,if_neg (fun hh=>hr ((tq hd).2 hh))]
theorem zD {n:Int}{l:List ah}{o:ah}(h1: ¬ (n<1∨8<n))(ho:o∈l)(hf:eM n o≠0):iW n l=5:=by
 unfold iW
 rw [if_neg h1,if_neg]
 intro hh
 exact hf (js.2 ⟨by omega,by omega,hh o ho⟩)
set_option maxHeartbeats 8000000 in
theorem xe (n:Int)(hn: -9223372036854775808≤n)(hn2:n≤9223372036854775807)(l:List ah)(hl:l.length<4611686018427387904)(hw:∀ o,o∈l→yg o∧o.cl.length<4611686018427387904):Go.Sl.Pure Tryz.prog order_History.f [ops l,i64 n] (i64 (iW n l)):=by
 refine order_History.enter (by first | rfl | simp [SV.ok,SV.aF]) (by first | rfl | simp [Hp.ok,Ob.ok,SV.ok,SV.aF,ag.an]) (by simp) ?_
 dsimp only [order_History.s,Co.M,Co.G,Co.J,Co.H,Co.N,Co.F,Co.C,Co.Z,Co.B,Co.b8,Co.aJ,Co.b_,Co.i6,Co.z8,Co.cn]
 have fin:∀ (env:List (Nat×SV)) (hp:Hp) (kk:Nat) (b:Int),env.lookup 4=some (i64 b)→iW n l=b→Go.Sl.Fin 0 0 order_History.rv (fun r F=>r=i64 (iW n l)∧F=[]) ⟨env,hp,kk⟩:=fun env hp kk b he hb=>by
  rw [hb]
  exact End.mk [] (h1:=by show pT _ [.tmp 4]=_;simp only [pT,he];rfl) (h2:=by trivial) (h4:=⟨rfl,rfl⟩) (h5:=rfl) (h7:=Nat.zero_le _)
 have hwf:∀ x,x∈l→x.dot.wf:=fun x hx=>⟨(hw x hx).1.dr,(hw x hx).1.dn⟩
 have hkw:=tn hwf
 refine SW.seq ?_
 refine SW.g0 [0,1,4,6,7,8,10,16,17,18,19,20,26,45,46,47,48,49,56] mixed U ?_
 refine SW.seq (SW.seq ?_)
 by_cases h1:n<1
 ·have d1:decide (n<1)=true:=by simp [h1]
  refine SW.g0 [0,1,4,6,7,8,10,16,17,18,19,20,26,45,46,47,48,49,56] mixed (d1) ?_
  refine SW.aC rfl (SW.seq ?_)
  refine SW.g0 [0,1,4,6,7,8,10,16,17,18,19,20,26,45,46,47,48,49,56] mixed U ?_
  refine SW.ret ?_
  exact fin _ _ _ 2 rfl (by unfold iW;rw [if_pos (.inl h1)])
 have d1:decide (n<1)=false:=by simp [h1]
 by_cases h8:8<n
 ·have d2:decide (n>8)=true:=by simp;omega
  refine SW.g0 [0,1,4,6,7,8,10,16,17,18,19,20,26,45,46,47,48,49,56] mixed (And.intro (d1) (d2)) ?_
  refine SW.aC rfl (SW.seq ?_)
  refine SW.g0 [0,1,4,6,7,8,10,16,17,18,19,20,26,45,46,47,48,49,56] mixed U ?_
  refine SW.ret ?_
  exact fin _ _ _ 2 rfl (by unfold iW;rw [if_pos (.inr h8)])
 have d2:decide (n>8)=false:=by simp;omega
 have hnn: ¬ (n<1∨8<n):=by omega
 refine SW.g0 [0,1,4,6,7,8,10,16,17,18,19,20,26,45,46,47,48,49,56] mixed (And.intro (d1) (d2)) ?_
 refine SW.ay rfl (SW.skip (SW.seq (SW.seq ?_)))
 refine SW.g0 [0,1,4,6,7,8,10,16,17,18,19,20,26,45,46,47,48,49,56] mixed U ?_
 refine SW.block ?_
 refine SW.fI (α:={i:Nat // i≤l.length∧∀ j x,j<i→l[j]? =some x→eM n x=0}) (fun i=>⟨[(19,i64 i.1),(18,i64 l.length),(17,ops l),(0,ops l),(1,i64 n)],[],0⟩) (fun i=>l.length - i.1) ⟨0,by omega,by omega⟩ id U (round:= ?_)
 rintro ⟨i,hi,hs⟩
 dsimp only
 by_cases h:i<l.length
 ·have q1:decide ((i:Int)<l.length)=true:=by simp only [decide_eq_true_eq];omega
  obtain ⟨x,hx⟩:=bR h
  have hxm:=List.mem_of_getElem? hx
  have e2:IntKind.i64.wrap ((i:Int)+1)=((i+1:Nat):Int):=wrap_i64 _ (by omega)
  have hc:=vL n hn hn2 x (hw x hxm).1 (hw x hxm).2
  refine SW.seq ?_
  refine SW.g0 [0,1,4,6,7,8,10,16,17,18,19,20,26,45,46,47,48,49,56] mixed (q1) ?_
  refine SW.seq (SW.aC rfl (SW.skip ?_))
  refine SW.seq (SW.block (SW.seq ?_))
  refine SW.g0 [0,1,4,6,7,8,10,16,17,18,19,20,26,45,46,47,48,49,56] mixed (And.intro (eX hx) (bQ hx)) ?_
  refine SW.seq ?_
  by_cases hz:eM n x=0
  ·rw [hz] at hc
   refine SW.g1 [0,1,4,6,7,8,10,16,17,18,19,20,26,45,46,47,48,49,56] mixed U hc ?_
   refine SW.ay rfl (SW.skip ?_)
   refine SW.g0 [0,1,4,6,7,8,10,16,17,18,19,20,26,45,46,47,48,49,56] mixed (e2) ?_
   refine ⟨⟨i+1,by omega,fun j y hj hy=> ?_⟩,id,by show l.length - (i+1)<l.length - i;omega,?_⟩
   ·rcases Nat.lt_or_ge j i with h2 | h2
    ·exact hs j y h2 hy
    ·have:j=i:=by omega
     subst this
     rw [hx] at hy;injection hy with hy;rw [← hy];exact hz
   ·exact bk.mk U
  ·have hz2:(eM n x != 0)=true:=by rw [bne_iff_ne];exact hz
   generalize hv:eM n x=v at hc hz2
   refine SW.g1 [0,1,4,6,7,8,10,16,17,18,19,20,26,45,46,47,48,49,56] mixed (hz2) hc ?_
   refine SW.aC rfl (SW.seq ?_)
   refine SW.g0 [0,1,4,6,7,8,10,16,17,18,19,20,26,45,46,47,48,49,56] mixed U ?_
   refine SW.ret ?_
   exact fin _ _ _ 5 rfl (zD hnn hxm hz)
 have q1:decide ((i:Int)<l.length)=false:=by simp only [decide_eq_false_iff_not];omega
 have hall:∀ o,o∈l→eM n o=0:=fun o ho=>by
  obtain ⟨j,hj⟩:=List.mem_iff_getElem?.1 ho
  exact hs j o (by have:=dw hj;omega) hj
 have hv:=xd hnn hall
 have hxd:∀ o,o∈l→o.dot.r<8∧0<o.dot.n:=fun o ho=>by
  have:=(js.1 (hall o ho)).2.2
  exact ⟨by have:=this.r;omega,this.pos⟩
 refine SW.seq ?_
 refine SW.g0 [0,1,4,6,7,8,10,16,17,18,19,20,26,45,46,47,48,49,56] mixed (q1) ?_
 refine SW.seq (SW.ay rfl (SW.exit ?_))
 refine SW.seq (SW.lp ?_)
 (repeat (first | refine aK.op U (h:= ?_) | refine aK.aL U (h:= ?_) | refine aK.skip (h:= ?_)))
 refine aK.aG (rz l hl) (HSub.nil _) (h:= ?_)
 rintro _ _ ⟨rfl,M,c,⟨hM,hK⟩,rfl⟩
 simp only [aW]
 simp only [bn,bz,bA,cw,cB,bL,lk,List.lookup,Nat.reduceBEq,BEq.rfl,beq_self_eq_true,if_true,if_false,reduceIte,Nat.reduceEqDiff,Bool.false_eq_true,Option.isSome_some,Option.isSome_none,Nat.reduceAdd]
 have s1:bV [SV.d .aY,SV.d .ir] 0 [ops l,.mp 1]=[ops l,.mp 1]:=rfl
 (repeat (first | refine aK.op U (h:= ?_) | refine aK.aL U (h:= ?_) | refine aK.skip (h:= ?_)))
 have hkn:=dG l hl hwf
 unfold bB at hkn
 refine aK.aG (hkn _) (HSub.nil _) (h:= ?_)
 rintro _ _ ⟨rfl,rfl⟩
 simp only [bn,bz,bA,cw,cB,bL,lk,List.lookup,Nat.reduceBEq,BEq.rfl,beq_self_eq_true,if_true,if_false,reduceIte,Nat.reduceEqDiff,Bool.false_eq_true,Option.isSome_some,Option.isSome_none,Nat.reduceAdd]
 (repeat (first | refine aK.op (And.intro (s1) (ag.aB)) (h:= ?_) | refine aK.aL (And.intro (s1) (ag.aB)) (h:= ?_) | refine aK.skip (h:= ?_)))
 refine aK.nil ?_
 have ml:(aN Dt.cells iv M).length=(gC l).length:=by rw [← hM.len hK];simp [aN]
 have bad:∀ (env:List (Nat×SV)) (hp:Hp) (kk:Nat),env.lookup 4=some (i64 9)→mF l=false→Go.Sl.Fin 0 0 order_History.rv (fun r F=>r=i64 (iW n l)∧F=[]) ⟨env,hp,kk⟩:=fun env hp kk he hb=>fin env hp kk 9 he (by rw [hv,hb];rfl)
 refine SW.seq (SW.seq ?_)
 rcases hq:decide ((gC l).length=l.length) with _ | _
 ·have d3:(((gC l).length:Int) != (l.length:Int))=true:=by
   have:=of_decide_eq_false hq
   rw [bne_iff_ne];omega
  refine SW.g0 [0,1,4,6,7,8,10,16,17,18,19,20,26,45,46,47,48,49,56] mixed (And.intro (ml) (d3)) ?_
  refine SW.aC rfl (SW.seq ?_)
  refine SW.g0 [0,1,4,6,7,8,10,16,17,18,19,20,26,45,46,47,48,49,56] mixed U ?_
  refine SW.ret ?_
  exact bad _ _ _ rfl (by unfold mF;rw [hq];rfl)
 have d3:(((gC l).length:Int) != (l.length:Int))=false:=by
  have:=of_decide_eq_true hq
  rw [bne_eq_false_iff_eq];omega
 have w1:IntKind.u64.wrap (l.length:Int)=(l.length:Int):=wrap_u64 _ (by omega)
 rcases hq2:decide ((az l).count=l.length) with _ | _
 ·have d4:(((az l).count:Int) != (l.length:Int))=true:=by
   have:=of_decide_eq_false hq2
   rw [bne_iff_ne];omega
  (have fx:=(And.intro (ml) (And.intro (d3) (And.intro (d4) (w1))));refine SW.au [0,1,4,6,7,8,10,16,17,18,19,20,26,45,46,47,48,49,56] mixed ?_;(repeat (first | refine RW.ro fx (h:= ?_) | refine RW.skip (h:= ?_) | refine RW.op fx (h:= ?_) | refine RW.aL fx (h:= ?_) | refine RW.aj (h:= ?_) | (refine RW.aG (h:= ?_);(first | refine ai.mk fx (hc:=vH _ hkw _) (h:= ?_)))));refine RW.nil ⟨by kernel_rfl,aa.mk (h:= ?_)⟩)
  refine SW.aC rfl (SW.seq ?_)
  refine SW.g0 [0,1,4,6,7,8,10,16,17,18,19,20,26,45,46,47,48,49,56] mixed U ?_
  refine SW.ret ?_
  exact bad _ _ _ rfl (by unfold mF;rw [hq,hq2];rfl)
 have d4:(((az l).count:Int) != (l.length:Int))=false:=by
  have:=of_decide_eq_true hq2
  rw [bne_eq_false_iff_eq];omega
 (have fx:=(And.intro (ml) (And.intro (d3) (And.intro (d4) (w1))));refine SW.au [0,1,4,6,7,8,10,16,17,18,19,20,26,45,46,47,48,49,56] mixed ?_;(repeat (first | refine RW.ro fx (h:= ?_) | refine RW.skip (h:= ?_) | refine RW.op fx (h:= ?_) | refine RW.aL fx (h:= ?_) | refine RW.aj (h:= ?_) | (refine RW.aG (h:= ?_);(first | refine ai.mk fx (hc:=vH _ hkw _) (h:= ?_)))));refine RW.nil ⟨by kernel_rfl,aa.mk (h:= ?_)⟩)
 refine SW.ay rfl (SW.skip (SW.seq (SW.seq ?_)))
 refine SW.g0 [0,1,4,6,7,8,10,16,17,18,19,20,26,45,46,47,48,49,56] mixed U ?_
 refine SW.block ?_
 refine SW.fI (α:={i:Nat // i≤l.length∧∀ j x,j<i→l[j]? =some x→rI l (az l) x=true}) (fun i=>⟨[(48,i64 i.1),(47,i64 l.length),(46,ops l),(8,.ptr 4 0),(7,.ptr 3 0)],[(4,.box 34 (az l).cells),(3,.box 55 [ops l,.mp 1]),(1,.map (aN Dt.cells iv M) c)],5⟩) (fun i=>l.length - i.1) ⟨0,by omega,by omega⟩ id (And.intro (eY (fun n=>decide (n<5)) M) (U)) (round:= ?_)
 rintro ⟨i,hi,hs⟩
 dsimp only
 by_cases h:i<l.length
 ·have q1:decide ((i:Int)<l.length)=true:=by simp only [decide_eq_true_eq];omega
  obtain ⟨x,hx⟩:=bR h
  have hxm:=List.mem_of_getElem? hx
  have e2:IntKind.i64.wrap ((i:Int)+1)=((i+1:Nat):Int):=wrap_i64 _ (by omega)
  have hc:=D9 l hl x (az l) 1
  refine SW.seq ?_
  refine SW.g0 [0,1,4,6,7,8,10,16,17,18,19,20,26,45,46,47,48,49,56] mixed (q1) ?_
  refine SW.seq (SW.aC rfl (SW.skip ?_))
  refine SW.seq (SW.block (SW.seq ?_))
  refine SW.g0 [0,1,4,6,7,8,10,16,17,18,19,20,26,45,46,47,48,49,56] mixed (And.intro (eX hx) (bQ hx)) ?_
  refine SW.seq ?_
  rcases hz:rI l (az l) x with _ | _ <;> rw [hz] at hc
  ·refine SW.g1 [0,1,4,6,7,8,10,16,17,18,19,20,26,45,46,47,48,49,56] mixed U hc ?_
   refine SW.aC rfl (SW.seq ?_)
   refine SW.g0 [0,1,4,6,7,8,10,16,17,18,19,20,26,45,46,47,48,49,56] mixed U ?_
   refine SW.ret ?_
   refine bad _ _ _ rfl ?_
   unfold mF
   rw [Bool.and_eq_false_iff]
   exact .inr (List.all_eq_false.2 ⟨x,hxm,by rw [hz];decide⟩)
  ·refine SW.g1 [0,1,4,6,7,8,10,16,17,18,19,20,26,45,46,47,48,49,56] mixed U hc ?_
   refine SW.ay rfl (SW.skip ?_)
   refine SW.g0 [0,1,4,6,7,8,10,16,17,18,19,20,26,45,46,47,48,49,56] mixed (e2) ?_
   refine ⟨⟨i+1,by omega,fun j y hj hy=> ?_⟩,id,by show l.length - (i+1)<l.length - i;omega,?_⟩
   ·rcases Nat.lt_or_ge j i with h2 | h2
    ·exact hs j y h2 hy
    ·have:j=i:=by omega
     subst this
     rw [hx] at hy;injection hy with hy;rw [← hy];exact hz
   ·exact bk.mk (And.intro (eY (fun n=>decide (n<5)) M) (U))
 have q1:decide ((i:Int)<l.length)=false:=by simp only [decide_eq_false_iff_not];omega
 refine SW.seq ?_
 refine SW.g0 [0,1,4,6,7,8,10,16,17,18,19,20,26,45,46,47,48,49,56] mixed (q1) ?_
 refine SW.seq (SW.ay rfl (SW.exit ?_))
 refine SW.seq ?_
 refine SW.g0 [0,1,4,6,7,8,10,16,17,18,19,20,26,45,46,47,48,49,56] mixed U ?_
 refine SW.ret ?_
 refine fin _ _ _ 0 rfl ?_
 rw [hv]
 have:mF l=true:=by
  unfold mF
  rw [hq,hq2,Bool.true_and,Bool.true_and,List.all_eq_true]
  intro o ho
  obtain ⟨j,hj⟩:=List.mem_iff_getElem?.1 ho
  exact hs j o (by have:=dw hj;omega) hj
 rw [this];rfl
theorem xg (n:Int)(hn: -9223372036854775808≤n)(hn2:n≤9223372036854775807)(l:List ah)(hl:l.length<4611686018427387904)(hw:∀ o,o∈l→yg o∧o.cl.length<4611686018427387904)(k:Nat):bB Tryz.prog order_History.f [ops l,i64 n] [] k 0 (i64 (iW n l)) []:=(xe n hn hn2 l hl hw).sc rfl k
end
section
attribute [local irreducible] SW RW bB SC ai aa
def nP (v:ag)(r:Nat):Dt×Int:=if r<8 then if v.get r+1=4294967296 then (⟨0,0⟩,6) else (⟨r,v.get r+1⟩,0) else (⟨0,0⟩,2)
set_option maxHeartbeats 2000000 in
theorem D_ (v:ag)(hv:v.wf)(r:Nat)(hr:r<256):Go.Sl.Pure Tryz.prog vector_Next.f [.agg v.cells,u8 r] (.cW [.agg (nP v r).1.cells,i64 (nP v r).2]):=by
 refine vector_Next.enter (by first | rfl | simp [SV.ok,SV.aF]) (by first | rfl | simp [Hp.ok,Ob.ok,SV.ok,SV.aF,ag.an]) (by simp) ?_
 dsimp only [vector_Next.s,Co.M,Co.G,Co.J,Co.H,Co.N,Co.F,Co.C,Co.Z,Co.B,Co.b8,Co.aJ,Co.b_,Co.i6,Co.z8,Co.cn]
 have e1:IntKind.i64.wrap (r:Int)=(r:Int):=wrap_i64 _ (by omega)
 unfold nP
 refine SW.seq ?_
 (refine SW.au [0,1,2,4,5,6,11] mixed ?_;(repeat (first | refine RW.ro U (h:= ?_) | refine RW.skip (h:= ?_) | refine RW.op U (h:= ?_) | refine RW.aL U (h:= ?_) | refine RW.aj (h:= ?_)));refine RW.nil ⟨by kernel_rfl,aa.mk (h:= ?_)⟩)
 refine SW.seq (SW.block (SW.seq ?_))
 by_cases h:r<8
 ·have h1:decide ((r:Int)≥8)=false:=by simp only [decide_eq_false_iff_not];omega
  have hg:=hv r h
  rw [if_pos h]
  (refine SW.au [0,1,2,4,5,6,11] mixed ?_;(repeat (first | refine RW.ro (And.intro (e1) (h1)) (h:= ?_) | refine RW.skip (h:= ?_) | refine RW.op (And.intro (e1) (h1)) (h:= ?_) | refine RW.aL (And.intro (e1) (h1)) (h:= ?_) | refine RW.aj (h:= ?_)));refine RW.nil ⟨by kernel_rfl,aa.mk (h:= ?_)⟩)
  refine SW.ay rfl (SW.seq ?_)
  by_cases h2:v.get r+1=4294967296
  ·have e2:(IntKind.u32.wrap (((v.get r+1:Nat)):Int) == 0)=true:=by rw [h2];decide
   have e3:IntKind.u32.wrap (((v.get r+1:Nat)):Int)=0:=by rw [h2];decide
   rw [if_pos h2]
   (have fx:=(And.intro (h) (And.intro (ag.er v h) (e3)));refine SW.au [0,1,2,4,5,6,11] mixed ?_;(repeat (first | refine RW.ro fx (h:= ?_) | refine RW.skip (h:= ?_) | refine RW.op fx (h:= ?_) | refine RW.aL fx (h:= ?_) | refine RW.aj (h:= ?_)));refine RW.nil ⟨by kernel_rfl,aa.mk (h:= ?_)⟩)
   refine SW.aC rfl (SW.seq ?_)
   (refine SW.au [0,1,2,4,5,6,11] mixed ?_;(repeat (first | refine RW.ro U (h:= ?_) | refine RW.skip (h:= ?_) | refine RW.op U (h:= ?_) | refine RW.aL U (h:= ?_) | refine RW.aj (h:= ?_)));refine RW.nil ⟨by kernel_rfl,aa.mk (h:= ?_)⟩)
   refine SW.ret ?_
   exact End.mk [] (h4:=⟨rfl,rfl⟩)
  ·have e3:IntKind.u32.wrap (((v.get r+1:Nat)):Int)=((v.get r+1:Nat):Int):=wrap_u32' _ (by omega)
   have e4:(((v.get r+1:Nat):Int) == 0)=false:=by rw [beq_eq_false_iff_ne];omega
   have e5:bV (bV [SV.d (.int .u8 0),.d (.int .u32 0)] 0 [u8 r]) 1 [.d (.int .u32 ((v.get r+1:Nat):Int))]=(⟨r,v.get r+1⟩:Dt).cells:=rfl
   rw [if_neg h2]
   (have fx:=(And.intro (h) (And.intro (ag.er v h) (And.intro (e3) (e4))));refine SW.au [0,1,2,4,5,6,11] mixed ?_;(repeat (first | refine RW.ro fx (h:= ?_) | refine RW.skip (h:= ?_) | refine RW.op fx (h:= ?_) | refine RW.aL fx (h:= ?_) | refine RW.aj (h:= ?_)));refine RW.nil ⟨by kernel_rfl,aa.mk (h:= ?_)⟩)
   refine SW.ay rfl (SW.skip (SW.seq ?_))
   (have fx:=(And.intro (h) (And.intro (ag.er v h) (And.intro (e3) (e5))));refine SW.au [0,1,2,4,5,6,11] mixed ?_;(repeat (first | refine RW.ro fx (h:= ?_) | refine RW.skip (h:= ?_) | refine RW.op fx (h:= ?_) | refine RW.aL fx (h:= ?_) | refine RW.aj (h:= ?_)));refine RW.nil ⟨by kernel_rfl,aa.mk (h:= ?_)⟩)
   refine SW.ret ?_
   exact End.mk [] (h4:=⟨rfl,rfl⟩)
 ·have h1:decide ((r:Int)≥8)=true:=by simp only [decide_eq_true_eq];omega
  rw [if_neg h]
  (refine SW.au [0,1,2,4,5,6,11] mixed ?_;(repeat (first | refine RW.ro (And.intro (e1) (h1)) (h:= ?_) | refine RW.skip (h:= ?_) | refine RW.op (And.intro (e1) (h1)) (h:= ?_) | refine RW.aL (And.intro (e1) (h1)) (h:= ?_) | refine RW.aj (h:= ?_)));refine RW.nil ⟨by kernel_rfl,aa.mk (h:= ?_)⟩)
  refine SW.aC rfl (SW.seq ?_)
  (refine SW.au [0,1,2,4,5,6,11] mixed ?_;(repeat (first | refine RW.ro U (h:= ?_) | refine RW.skip (h:= ?_) | refine RW.op U (h:= ?_) | refine RW.aL U (h:= ?_) | refine RW.aj (h:= ?_)));refine RW.nil ⟨by kernel_rfl,aa.mk (h:= ?_)⟩)
  refine SW.ret ?_
  exact End.mk [] (h4:=⟨rfl,rfl⟩)
theorem Ea (v:ag)(hv:v.wf)(r:Nat)(hr:r<256)(k:Nat):bB Tryz.prog vector_Next.f [.agg v.cells,.d (.int .u8 (r:Int))] [] k 0 (.cW [.agg (nP v r).1.cells,.d (.int .i64 (nP v r).2)]) []:=(D_ v hv r hr).sc rfl k
def Ip (o:ah):Prop:=o.jf∧o.cl.length≤1048576
theorem Gg (o:ah)(h:Ip o):Go.Sl.Pure Tryz.prog buffer_own.f [.agg o.cells] (.agg o.cells):=by
 refine buffer_own.enter (by first | rfl | simp [SV.ok,SV.aF]) (by first | rfl | simp [Hp.ok,Ob.ok,SV.ok,SV.aF,ag.an]) (by simp) ?_
 dsimp only [buffer_own.s,Co.M,Co.G,Co.J,Co.H,Co.N,Co.F,Co.C,Co.Z,Co.B,Co.b8,Co.aJ,Co.b_,Co.i6,Co.z8,Co.cn]
 have c1:=fun k=>s9 o h.1 h.2 k
 have s1:bV o.cells 28 [.d o.lines]=o.cells:=rfl
 refine SW.seq ?_
 (refine SW.au [0,1,2] mixed ?_;(repeat (first | refine RW.ro U (h:= ?_) | refine RW.skip (h:= ?_) | refine RW.op U (h:= ?_) | refine RW.aL U (h:= ?_) | refine RW.aj (h:= ?_)));refine RW.nil ⟨by kernel_rfl,aa.mk (h:= ?_)⟩)
 refine SW.seq ?_
 (refine SW.au [0,1,2] mixed ?_;(repeat (first | refine RW.ro (s1) (h:= ?_) | refine RW.skip (h:= ?_) | refine RW.op (s1) (h:= ?_) | refine RW.aL (s1) (h:= ?_) | refine RW.aj (h:= ?_) | (refine RW.aG (h:= ?_);(first | refine ai.mk (s1) (hc:=c1 _) (h:= ?_)))));refine RW.nil ⟨by kernel_rfl,aa.mk (h:= ?_)⟩)
 refine SW.seq ?_
 (refine SW.au [0,1,2] mixed ?_;(repeat (first | refine RW.ro U (h:= ?_) | refine RW.skip (h:= ?_) | refine RW.op U (h:= ?_) | refine RW.aL U (h:= ?_) | refine RW.aj (h:= ?_)));refine RW.nil ⟨by kernel_rfl,aa.mk (h:= ?_)⟩)
 refine SW.ret ?_
 exact End.mk [] (h4:=⟨rfl,rfl⟩)
theorem Gh (o:ah)(h:Ip o)(k:Nat):bB Tryz.prog buffer_own.f [.agg o.cells] [] k 0 (.agg o.cells) []:=(Gg o h).sc rfl k
def eU (n:Nat)(has:ag)(m:Nat):List SV:= .d (.int .i64 (n:Int))::(has.cells++[.mp m])
theorem eU.len (n:Nat)(has:ag)(m:Nat):(eU n has m).length=10:=rfl
theorem eU.g0 (n:Nat)(has:ag)(m:Nat):(eU n has m)[0]? =some (i64 n):=rfl
theorem eU.g9 (n:Nat)(has:ag)(m:Nat):(eU n has m)[9]? =some (.mp m):=rfl
theorem eU.has (n:Nat)(has:ag)(m:Nat):List.take 8 (List.drop 1 (eU n has m))=has.cells:=rfl
theorem eU.one (n:Nat)(has:ag)(m:Nat):(eU n has m).all SV.aZ=true:=rfl
theorem eU.ok (q:Nat→Bool)(n:Nat)(has:ag)(m:Nat)(h:q m=true):SV.aF q (eU n has m)=true:=by
 simp [eU,SV.aF,SV.ok,SV.gK,ag.an,h]
theorem eU.aP (ρ:Nat→Nat)(n:Nat)(has:ag)(m:Nat):SV.aM ρ (eU n has m)=eU n has (ρ m):=by
 simp [eU,SV.aM,SV.aP,SV.gX,ag.bN]
theorem eU.set (n:Nat)(has:ag)(m:Nat){r:Nat}(h:r<8)(x:Nat):bV (eU n has m) (1+r) [.d (.int .u32 (x:Int))]=eU n (has.set r x) m:=by
 match r,h with
 | 0,_ | 1,_ | 2,_ | 3,_ | 4,_ | 5,_ | 6,_ | 7,_=>rfl
def bH (b m n:Nat)(has:ag)(M:MM Dt ah)(c:Nat):Hp:=[(b,.box 72 (eU n has m)),(m,.map (aN Dt.cells ov M) c)]
theorem bH.out (n:Nat)(has:ag)(M:MM Dt ah)(c i:Nat)(h:i<2):lk (bH 0 1 n has M c) i≠none:=by
 match i,h with
 | 0,_ | 1,_=>simp [bH,af]
theorem bH.ok (q:Nat→Bool)(b m n:Nat)(has:ag)(M:MM Dt ah)(c:Nat)(hb:q b=true)(hm:q m=true):(bH b m n has M c).ok q=true:=by
 simp [bH,Hp.ok,Ob.ok,eU.ok q n has m hm,dI,hb,hm]
theorem bH.aP (ρ:Nat→Nat)(b m n:Nat)(has:ag)(M:MM Dt ah)(c:Nat):(bH b m n has M c).aP ρ=bH (ρ b) (ρ m) n has M c:=by
 simp [bH,Hp.aP,Ob.aP,eU.aP,gv]
set_option maxHeartbeats 2000000 in
theorem Eb (n:Nat)(has:ag)(M:MM Dt ah)(c:Nat):SB Tryz.prog buffer_Buffer_none.f [.ptr 0 0] (bH 0 1 n has M c) 2 0 fun r F=>r=bl false∧F=bH 0 1 n has M c:=by
 refine buffer_Buffer_none.enter (by simp [SV.ok,SV.aF]) (bH.ok _ _ _ _ _ _ _ rfl rfl) (by simp) ?_
 have g1:=eU.g9 n has 1
 have g2:=eU.len n has 1
 simp only [bH]
 dsimp only [buffer_Buffer_none.s,Co.M,Co.G,Co.J,Co.H,Co.N,Co.F,Co.C,Co.Z,Co.B,Co.b8,Co.aJ,Co.b_,Co.i6,Co.z8,Co.cn]
 refine SW.seq ?_
 (refine SW.au [0,2] mixed ?_;(repeat (first | refine RW.ro U (h:= ?_) | refine RW.skip (h:= ?_) | refine RW.op U (h:= ?_) | refine RW.aL U (h:= ?_) | refine RW.aj (h:= ?_)));refine RW.nil ⟨by kernel_rfl,aa.mk (h:= ?_)⟩)
 refine SW.seq ?_
 (refine SW.au [0,2] mixed ?_;(repeat (first | refine RW.ro (And.intro (g1) (g2)) (h:= ?_) | refine RW.skip (h:= ?_) | refine RW.op (And.intro (g1) (g2)) (h:= ?_) | refine RW.aL (And.intro (g1) (g2)) (h:= ?_) | refine RW.aj (h:= ?_)));refine RW.nil ⟨by kernel_rfl,aa.mk (h:= ?_)⟩)
 refine SW.ret ?_
 exact End.mk (bH 0 1 n has M c) (h4:=⟨rfl,rfl⟩) (h6:=bH.ok _ _ _ _ _ _ _ rfl rfl)
theorem yh (n:Nat)(has:ag)(M:MM Dt ah)(c:Nat)(b m:Nat)(zk:b≠m)(k:Nat):bB Tryz.prog buffer_Buffer_none.f [.ptr b 0] (bH b m n has M c) k 0 (bl false) (bH b m n has M c):=by
 have h:=SB.oW [b,m] (Eb n has M c) (by simp [zk]) (fun i hi=>bH.out n has M c i (by simpa using hi)) k
 simpa [SV.aM,SV.aP,iA,bH.aP] using h
set_option maxHeartbeats 2000000 in
theorem Gi (n:Nat)(has:ag)(M:MM Dt ah)(c:Nat):SB Tryz.prog buffer_Buffer_Has.f [.ptr 0 0] (bH 0 1 n has M c) 2 0 fun r F=>r= .agg has.cells∧F=bH 0 1 n has M c:=by
 refine buffer_Buffer_Has.enter (by simp [SV.ok,SV.aF]) (bH.ok _ _ _ _ _ _ _ rfl rfl) (by simp) ?_
 have c1:=fun k=>yh n has M c 0 1 (by decide) k
 have g1:=eU.has n has 1
 have g2:=eU.len n has 1
 simp only [bH] at c1 ⊢
 dsimp only [buffer_Buffer_Has.s,Co.M,Co.G,Co.J,Co.H,Co.N,Co.F,Co.C,Co.Z,Co.B,Co.b8,Co.aJ,Co.b_,Co.i6,Co.z8,Co.cn]
 refine SW.seq ?_
 (refine SW.au [0,2,4] mixed ?_;(repeat (first | refine RW.ro U (h:= ?_) | refine RW.skip (h:= ?_) | refine RW.op U (h:= ?_) | refine RW.aL U (h:= ?_) | refine RW.aj (h:= ?_)));refine RW.nil ⟨by kernel_rfl,aa.mk (h:= ?_)⟩)
 refine SW.seq (SW.seq ?_)
 (refine SW.au [0,2,4] mixed ?_;(repeat (first | refine RW.ro U (h:= ?_) | refine RW.skip (h:= ?_) | refine RW.op U (h:= ?_) | refine RW.aL U (h:= ?_) | refine RW.aj (h:= ?_) | (refine RW.aG (h:= ?_);(first | refine ai.mk U (hc:=c1 _) (h:= ?_)))));refine RW.nil ⟨by kernel_rfl,aa.mk (h:= ?_)⟩)
 refine SW.ay rfl (SW.skip (SW.seq ?_))
 (refine SW.au [0,2,4] mixed ?_;(repeat (first | refine RW.ro (And.intro (g1) (g2)) (h:= ?_) | refine RW.skip (h:= ?_) | refine RW.op (And.intro (g1) (g2)) (h:= ?_) | refine RW.aL (And.intro (g1) (g2)) (h:= ?_) | refine RW.aj (h:= ?_)));refine RW.nil ⟨by kernel_rfl,aa.mk (h:= ?_)⟩)
 refine SW.ret ?_
 exact End.mk (bH 0 1 n has M c) (h4:=⟨rfl,rfl⟩) (h6:=bH.ok _ _ _ _ _ _ _ rfl rfl)
theorem Ec (n:Nat)(has:ag)(M:MM Dt ah)(c:Nat)(b m:Nat)(zk:b≠m)(k:Nat):bB Tryz.prog buffer_Buffer_Has.f [.ptr b 0] (bH b m n has M c) k 0 (.agg has.cells) (bH b m n has M c):=by
 have h:=SB.oW [b,m] (Gi n has M c) (by simp [zk]) (fun i hi=>bH.out n has M c i (by simpa using hi)) k
 simpa [SV.aM,SV.aP,iA,bH.aP,ag.bN] using h
set_option maxHeartbeats 2000000 in
theorem Ed (n:Nat)(has:ag)(M:MM Dt ah)(c:Nat)(hw:WB M c)(hl:M.length<1000000):SB Tryz.prog buffer_Buffer_all.f [.ptr 0 0] (bH 0 1 n has M c) 2 0 fun r F=>r=ops (aA (vals M))∧F=bH 0 1 n has M c:=by
 refine buffer_Buffer_all.enter (by simp [SV.ok,SV.aF]) (bH.ok _ _ _ _ _ _ _ rfl rfl) (by simp) ?_
 have c1:=fun k=>BZ M c 1 k
 have c2:=fun k=>rB hw hl k 2 1 (by decide)
 have g1:=eU.g9 n has 1
 have g2:=eU.len n has 1
 simp only [bH,d_] at c1 c2 ⊢
 dsimp only [buffer_Buffer_all.s,Co.M,Co.G,Co.J,Co.H,Co.N,Co.F,Co.C,Co.Z,Co.B,Co.b8,Co.aJ,Co.b_,Co.i6,Co.z8,Co.cn]
 refine SW.seq ?_
 (refine SW.au [0,2] mixed ?_;(repeat (first | refine RW.ro U (h:= ?_) | refine RW.skip (h:= ?_) | refine RW.op U (h:= ?_) | refine RW.aL U (h:= ?_) | refine RW.aj (h:= ?_)));refine RW.nil ⟨by kernel_rfl,aa.mk (h:= ?_)⟩)
 refine SW.seq ?_
 (refine SW.au [0,2] mixed ?_;(repeat (first | refine RW.ro (And.intro (g1) (g2)) (h:= ?_) | refine RW.skip (h:= ?_) | refine RW.op (And.intro (g1) (g2)) (h:= ?_) | refine RW.aL (And.intro (g1) (g2)) (h:= ?_) | refine RW.aj (h:= ?_) | (refine RW.aG (h:= ?_);(first | refine ai.mk (And.intro (g1) (g2)) (hc:=c1 _) (h:= ?_) | refine ai.mk (And.intro (g1) (g2)) (hc:=c2 _) (h:= ?_)))));refine RW.nil ⟨by kernel_rfl,aa.mk (h:= ?_)⟩)
 refine SW.ret ?_
 exact End.mk (bH 0 1 n has M c) (h4:=⟨rfl,rfl⟩) (h6:=bH.ok _ _ _ _ _ _ _ rfl rfl)
theorem Ee (n:Nat)(has:ag)(M:MM Dt ah)(c:Nat)(hw:WB M c)(hl:M.length<1000000)(b m:Nat)(zk:b≠m)(k:Nat):bB Tryz.prog buffer_Buffer_all.f [.ptr b 0] (bH b m n has M c) k 0 (ops (aA (vals M))) (bH b m n has M c):=by
 have h:=SB.oW [b,m] (Ed n has M c hw hl) (by simp [zk]) (fun i hi=>bH.out n has M c i (by simpa using hi)) k
 simpa [SV.aM,SV.aP,iA,bH.aP] using h
end
end Go.Proofs.YtnakpdoioammhaaGreatDoor
